/- Contracts of functions that the statements of this seat reach: what each returns; it writes to nothing of old. No condition but those that each theorem states. -/
import Derived.Test.YtcnodghbkoeohaaRows
import Derived.Test.YtcnodghbkoeohaaVd
open Go Go.Vm Go.Proofs Go.IntWalk Go.RowKit
set_option maxRecDepth 100000
set_option maxHeartbeats 4000000
set_option linter.unusedSimpArgs false
set_option linter.unusedVariables false
set_option linter.unusedSectionVars false
namespace Go.Proofs.Ytcnodghbkoeohaa.W
attribute [local irreducible] kJ ev evx vops vstep vgo vgd vget vcall vcallFn vcallA vcallB vts vres vcond
@[go_sem] theorem ty2 : tyI Try.prog 2 = some { size := 1, bytes := 8, zv := Value.int IntKind.i64 (Int.ofNat 0), kind := TK.int IntKind.i64, cts := [(0, 0)], scal := true, psz := 0, zts := [T.c (C.int IntKind.i64 (Int.ofNat 0))] } := by rfl
@[go_sem] theorem ty3 : tyI Try.prog 3 = some { size := 1, bytes := 8, zv := Value.int IntKind.i64 (Int.ofNat 0), kind := TK.int IntKind.i64, cts := [(0, 0)], scal := true, psz := 0, zts := [T.c (C.int IntKind.i64 (Int.ofNat 0))] } := by rfl
@[go_sem] theorem ty4 : tyI Try.prog 4 = some { size := 1, bytes := 1, zv := Value.bool false, kind := TK.bool, cts := [(0, 0)], scal := true, psz := 0, zts := [T.c (C.bool false)] } := by rfl
@[go_sem] theorem ty5 : tyI Try.prog 5 = some { size := 1, bytes := 1, zv := Value.int IntKind.u8 (Int.ofNat 0), kind := TK.int IntKind.u8, cts := [(0, 0)], scal := true, psz := 0, zts := [T.c (C.int IntKind.u8 (Int.ofNat 0))] } := by rfl
@[go_sem] theorem ty12 : tyI Try.prog 12 = some { size := 1, bytes := 8, zv := Value.int IntKind.u64 (Int.ofNat 0), kind := TK.int IntKind.u64, cts := [(0, 0)], scal := true, psz := 0, zts := [T.c (C.int IntKind.u64 (Int.ofNat 0))] } := by rfl
@[go_sem] theorem ty21 : tyI Try.prog 21 = some { size := 1, bytes := 4, zv := Value.int IntKind.i32 (Int.ofNat 0), kind := TK.int IntKind.i32, cts := [(0, 0)], scal := true, psz := 0, zts := [T.c (C.int IntKind.i32 (Int.ofNat 0))] } := by rfl
@[go_sem] theorem ty22 : tyI Try.prog 22 = some { size := 1, bytes := 24, zv := Value.slice none 0 0, kind := TK.slice 2, cts := [(2, 1)], scal := false, psz := 0, zts := [T.nilS] } := by rfl
@[go_sem] theorem ty23 : tyI Try.prog 23 = some { size := 2, bytes := 48, zv := Value.agg { toList := [Value.slice none 0 0, Value.slice none 0 0] }, kind := TK.struct [(0, 22), (1, 22)], cts := [(2, 1), (2, 1)], scal := false, psz := 0, zts := [T.nilS, T.nilS] } := by rfl
@[go_sem] theorem ty24 : tyI Try.prog 24 = some { size := 2, bytes := 48, zv := Value.agg { toList := [Value.slice none 0 0, Value.slice none 0 0] }, kind := TK.struct [(0, 22), (1, 22)], cts := [(2, 1), (2, 1)], scal := false, psz := 0, zts := [T.nilS, T.nilS] } := by rfl
@[go_sem] theorem ty26 : tyI Try.prog 26 = some { size := 2, bytes := 16, zv := Value.agg { toList := [Value.int IntKind.i64 (Int.ofNat 0), Value.int IntKind.i64 (Int.ofNat 0)] }, kind := TK.struct [(0, 2), (1, 2)], cts := [(0, 0), (0, 0)], scal := true, psz := 0, zts := [T.c (C.int IntKind.i64 (Int.ofNat 0)), T.c (C.int IntKind.i64 (Int.ofNat 0))] } := by rfl
@[go_sem] theorem ty27 : tyI Try.prog 27 = some { size := 2, bytes := 16, zv := Value.agg { toList := [Value.int IntKind.i64 (Int.ofNat 0), Value.int IntKind.i64 (Int.ofNat 0)] }, kind := TK.struct [(0, 2), (1, 2)], cts := [(0, 0), (0, 0)], scal := true, psz := 0, zts := [T.c (C.int IntKind.i64 (Int.ofNat 0)), T.c (C.int IntKind.i64 (Int.ofNat 0))] } := by rfl
@[go_sem] theorem ty29 : tyI Try.prog 29 = some { size := 2, bytes := 48, zv := Value.agg { toList := [Value.slice none 0 0, Value.slice none 0 0] }, kind := TK.struct [(0, 22), (1, 22)], cts := [(2, 1), (2, 1)], scal := false, psz := 0, zts := [T.nilS, T.nilS] } := by rfl
@[go_sem] theorem ty34 : tyI Try.prog 34 = some { size := 1, bytes := 24, zv := Value.slice none 0 0, kind := TK.slice 83, cts := [(83, 3)], scal := false, psz := 0, zts := [T.nilS] } := by rfl
@[go_sem] theorem ty37 : tyI Try.prog 37 = some { size := 1, bytes := 24, zv := Value.slice none 0 0, kind := TK.slice 89, cts := [(89, 3)], scal := false, psz := 0, zts := [T.nilS] } := by rfl
@[go_sem] theorem ty41 : tyI Try.prog 41 = some { size := 1, bytes := 24, zv := Value.slice none 0 0, kind := TK.slice 74, cts := [(74, 4)], scal := false, psz := 0, zts := [T.nilS] } := by rfl
@[go_sem] theorem ty44 : tyI Try.prog 44 = some { size := 1, bytes := 24, zv := Value.slice none 0 0, kind := TK.slice 78, cts := [(78, 4)], scal := false, psz := 0, zts := [T.nilS] } := by rfl
@[go_sem] theorem ty47 : tyI Try.prog 47 = some { size := 1, bytes := 24, zv := Value.slice none 0 0, kind := TK.slice 141, cts := [(141, 4)], scal := false, psz := 0, zts := [T.nilS] } := by rfl
@[go_sem] theorem ty50 : tyI Try.prog 50 = some { size := 1, bytes := 24, zv := Value.slice none 0 0, kind := TK.slice 145, cts := [(145, 4)], scal := false, psz := 0, zts := [T.nilS] } := by rfl
@[go_sem] theorem ty54 : tyI Try.prog 54 = some { size := 5, bytes := 88, zv := Value.agg { toList := [Value.int IntKind.i64 (Int.ofNat 0), Value.slice none 0 0, Value.slice none 0 0, Value.slice none 0 0, Value.int IntKind.i64 (Int.ofNat 0)] }, kind := TK.struct [(0, 2), (1, 24), (3, 22), (4, 2)], cts := [(0, 0), (2, 1), (2, 1), (2, 1), (0, 0)], scal := false, psz := 0, zts := [T.c (C.int IntKind.i64 (Int.ofNat 0)), T.nilS, T.nilS, T.nilS, T.c (C.int IntKind.i64 (Int.ofNat 0))] } := by rfl
@[go_sem] theorem ty55 : tyI Try.prog 55 = some { size := 5, bytes := 88, zv := Value.agg { toList := [Value.int IntKind.i64 (Int.ofNat 0), Value.slice none 0 0, Value.slice none 0 0, Value.slice none 0 0, Value.int IntKind.i64 (Int.ofNat 0)] }, kind := TK.struct [(0, 2), (1, 24), (3, 22), (4, 2)], cts := [(0, 0), (2, 1), (2, 1), (2, 1), (0, 0)], scal := false, psz := 0, zts := [T.c (C.int IntKind.i64 (Int.ofNat 0)), T.nilS, T.nilS, T.nilS, T.c (C.int IntKind.i64 (Int.ofNat 0))] } := by rfl
@[go_sem] theorem ty58 : tyI Try.prog 58 = some { size := 5, bytes := 88, zv := Value.agg { toList := [Value.int IntKind.i64 (Int.ofNat 0), Value.slice none 0 0, Value.slice none 0 0, Value.slice none 0 0, Value.int IntKind.i64 (Int.ofNat 0)] }, kind := TK.struct [(0, 2), (1, 29), (3, 22), (4, 2)], cts := [(0, 0), (2, 1), (2, 1), (2, 1), (0, 0)], scal := false, psz := 0, zts := [T.c (C.int IntKind.i64 (Int.ofNat 0)), T.nilS, T.nilS, T.nilS, T.c (C.int IntKind.i64 (Int.ofNat 0))] } := by rfl
@[go_sem] theorem ty59 : tyI Try.prog 59 = some { size := 5, bytes := 88, zv := Value.agg { toList := [Value.int IntKind.i64 (Int.ofNat 0), Value.slice none 0 0, Value.slice none 0 0, Value.slice none 0 0, Value.int IntKind.i64 (Int.ofNat 0)] }, kind := TK.struct [(0, 2), (1, 29), (3, 22), (4, 2)], cts := [(0, 0), (2, 1), (2, 1), (2, 1), (0, 0)], scal := false, psz := 0, zts := [T.c (C.int IntKind.i64 (Int.ofNat 0)), T.nilS, T.nilS, T.nilS, T.c (C.int IntKind.i64 (Int.ofNat 0))] } := by rfl
@[go_sem] theorem ty63 : tyI Try.prog 63 = some { size := 1, bytes := 24, zv := Value.slice none 0 0, kind := TK.slice 201, cts := [(201, 3)], scal := false, psz := 0, zts := [T.nilS] } := by rfl
@[go_sem] theorem ty64 : tyI Try.prog 64 = some { size := 7, bytes := 136, zv := Value.agg { toList := [Value.int IntKind.i64 (Int.ofNat 0), Value.slice none 0 0, Value.slice none 0 0, Value.slice none 0 0, Value.int IntKind.i64 (Int.ofNat 0), Value.slice none 0 0, Value.slice none 0 0] }, kind := TK.struct [(0, 55), (5, 63), (6, 34)], cts := [(0, 0), (2, 1), (2, 1), (2, 1), (0, 0), (201, 3), (83, 3)], scal := false, psz := 0, zts := [T.c (C.int IntKind.i64 (Int.ofNat 0)), T.nilS, T.nilS, T.nilS, T.c (C.int IntKind.i64 (Int.ofNat 0)), T.nilS, T.nilS] } := by rfl
@[go_sem] theorem ty65 : tyI Try.prog 65 = some { size := 7, bytes := 136, zv := Value.agg { toList := [Value.int IntKind.i64 (Int.ofNat 0), Value.slice none 0 0, Value.slice none 0 0, Value.slice none 0 0, Value.int IntKind.i64 (Int.ofNat 0), Value.slice none 0 0, Value.slice none 0 0] }, kind := TK.struct [(0, 55), (5, 63), (6, 34)], cts := [(0, 0), (2, 1), (2, 1), (2, 1), (0, 0), (201, 3), (83, 3)], scal := false, psz := 0, zts := [T.c (C.int IntKind.i64 (Int.ofNat 0)), T.nilS, T.nilS, T.nilS, T.c (C.int IntKind.i64 (Int.ofNat 0)), T.nilS, T.nilS] } := by rfl
@[go_sem] theorem ty68 : tyI Try.prog 68 = some { size := 1, bytes := 24, zv := Value.slice none 0 0, kind := TK.slice 158, cts := [(158, 3)], scal := false, psz := 0, zts := [T.nilS] } := by rfl
@[go_sem] theorem ty69 : tyI Try.prog 69 = some { size := 7, bytes := 136, zv := Value.agg { toList := [Value.int IntKind.i64 (Int.ofNat 0), Value.slice none 0 0, Value.slice none 0 0, Value.slice none 0 0, Value.int IntKind.i64 (Int.ofNat 0), Value.slice none 0 0, Value.slice none 0 0] }, kind := TK.struct [(0, 59), (5, 68), (6, 37)], cts := [(0, 0), (2, 1), (2, 1), (2, 1), (0, 0), (158, 3), (89, 3)], scal := false, psz := 0, zts := [T.c (C.int IntKind.i64 (Int.ofNat 0)), T.nilS, T.nilS, T.nilS, T.c (C.int IntKind.i64 (Int.ofNat 0)), T.nilS, T.nilS] } := by rfl
@[go_sem] theorem ty70 : tyI Try.prog 70 = some { size := 7, bytes := 136, zv := Value.agg { toList := [Value.int IntKind.i64 (Int.ofNat 0), Value.slice none 0 0, Value.slice none 0 0, Value.slice none 0 0, Value.int IntKind.i64 (Int.ofNat 0), Value.slice none 0 0, Value.slice none 0 0] }, kind := TK.struct [(0, 59), (5, 68), (6, 37)], cts := [(0, 0), (2, 1), (2, 1), (2, 1), (0, 0), (158, 3), (89, 3)], scal := false, psz := 0, zts := [T.c (C.int IntKind.i64 (Int.ofNat 0)), T.nilS, T.nilS, T.nilS, T.c (C.int IntKind.i64 (Int.ofNat 0)), T.nilS, T.nilS] } := by rfl
@[go_sem] theorem ty73 : tyI Try.prog 73 = some { size := 4, bytes := 48, zv := Value.agg { toList := [Value.int IntKind.i64 (Int.ofNat 0), Value.int IntKind.i64 (Int.ofNat 0), Value.int IntKind.i64 (Int.ofNat 0), Value.slice none 0 0] }, kind := TK.struct [(0, 2), (1, 2), (2, 2), (3, 47)], cts := [(0, 0), (0, 0), (0, 0), (141, 4)], scal := false, psz := 0, zts := [T.c (C.int IntKind.i64 (Int.ofNat 0)), T.c (C.int IntKind.i64 (Int.ofNat 0)), T.c (C.int IntKind.i64 (Int.ofNat 0)), T.nilS] } := by rfl
@[go_sem] theorem ty74 : tyI Try.prog 74 = some { size := 4, bytes := 48, zv := Value.agg { toList := [Value.int IntKind.i64 (Int.ofNat 0), Value.int IntKind.i64 (Int.ofNat 0), Value.int IntKind.i64 (Int.ofNat 0), Value.slice none 0 0] }, kind := TK.struct [(0, 2), (1, 2), (2, 2), (3, 47)], cts := [(0, 0), (0, 0), (0, 0), (141, 4)], scal := false, psz := 0, zts := [T.c (C.int IntKind.i64 (Int.ofNat 0)), T.c (C.int IntKind.i64 (Int.ofNat 0)), T.c (C.int IntKind.i64 (Int.ofNat 0)), T.nilS] } := by rfl
@[go_sem] theorem ty77 : tyI Try.prog 77 = some { size := 4, bytes := 48, zv := Value.agg { toList := [Value.int IntKind.i64 (Int.ofNat 0), Value.int IntKind.i64 (Int.ofNat 0), Value.int IntKind.i64 (Int.ofNat 0), Value.slice none 0 0] }, kind := TK.struct [(0, 2), (1, 2), (2, 2), (3, 50)], cts := [(0, 0), (0, 0), (0, 0), (145, 4)], scal := false, psz := 0, zts := [T.c (C.int IntKind.i64 (Int.ofNat 0)), T.c (C.int IntKind.i64 (Int.ofNat 0)), T.c (C.int IntKind.i64 (Int.ofNat 0)), T.nilS] } := by rfl
@[go_sem] theorem ty78 : tyI Try.prog 78 = some { size := 4, bytes := 48, zv := Value.agg { toList := [Value.int IntKind.i64 (Int.ofNat 0), Value.int IntKind.i64 (Int.ofNat 0), Value.int IntKind.i64 (Int.ofNat 0), Value.slice none 0 0] }, kind := TK.struct [(0, 2), (1, 2), (2, 2), (3, 50)], cts := [(0, 0), (0, 0), (0, 0), (145, 4)], scal := false, psz := 0, zts := [T.c (C.int IntKind.i64 (Int.ofNat 0)), T.c (C.int IntKind.i64 (Int.ofNat 0)), T.c (C.int IntKind.i64 (Int.ofNat 0)), T.nilS] } := by rfl
@[go_sem] theorem ty82 : tyI Try.prog 82 = some { size := 3, bytes := 56, zv := Value.agg { toList := [Value.int IntKind.i64 (Int.ofNat 0), Value.slice none 0 0, Value.slice none 0 0] }, kind := TK.struct [(0, 2), (1, 24)], cts := [(0, 0), (2, 1), (2, 1)], scal := false, psz := 0, zts := [T.c (C.int IntKind.i64 (Int.ofNat 0)), T.nilS, T.nilS] } := by rfl
@[go_sem] theorem ty83 : tyI Try.prog 83 = some { size := 3, bytes := 56, zv := Value.agg { toList := [Value.int IntKind.i64 (Int.ofNat 0), Value.slice none 0 0, Value.slice none 0 0] }, kind := TK.struct [(0, 2), (1, 24)], cts := [(0, 0), (2, 1), (2, 1)], scal := false, psz := 0, zts := [T.c (C.int IntKind.i64 (Int.ofNat 0)), T.nilS, T.nilS] } := by rfl
@[go_sem] theorem ty84 : tyI Try.prog 84 = some { size := 9, bytes := 152, zv := Value.agg { toList := [Value.int IntKind.i64 (Int.ofNat 0), Value.int IntKind.i64 (Int.ofNat 0), Value.slice none 0 0, Value.slice none 0 0, Value.int IntKind.i64 (Int.ofNat 0), Value.slice none 0 0, Value.slice none 0 0, Value.slice none 0 0, Value.int IntKind.i64 (Int.ofNat 0)] }, kind := TK.struct [(0, 2), (1, 83), (4, 55)], cts := [(0, 0), (0, 0), (2, 1), (2, 1), (0, 0), (2, 1), (2, 1), (2, 1), (0, 0)], scal := false, psz := 0, zts := [T.c (C.int IntKind.i64 (Int.ofNat 0)), T.c (C.int IntKind.i64 (Int.ofNat 0)), T.nilS, T.nilS, T.c (C.int IntKind.i64 (Int.ofNat 0)), T.nilS, T.nilS, T.nilS, T.c (C.int IntKind.i64 (Int.ofNat 0))] } := by rfl
@[go_sem] theorem ty85 : tyI Try.prog 85 = some { size := 9, bytes := 152, zv := Value.agg { toList := [Value.int IntKind.i64 (Int.ofNat 0), Value.int IntKind.i64 (Int.ofNat 0), Value.slice none 0 0, Value.slice none 0 0, Value.int IntKind.i64 (Int.ofNat 0), Value.slice none 0 0, Value.slice none 0 0, Value.slice none 0 0, Value.int IntKind.i64 (Int.ofNat 0)] }, kind := TK.struct [(0, 2), (1, 83), (4, 55)], cts := [(0, 0), (0, 0), (2, 1), (2, 1), (0, 0), (2, 1), (2, 1), (2, 1), (0, 0)], scal := false, psz := 0, zts := [T.c (C.int IntKind.i64 (Int.ofNat 0)), T.c (C.int IntKind.i64 (Int.ofNat 0)), T.nilS, T.nilS, T.c (C.int IntKind.i64 (Int.ofNat 0)), T.nilS, T.nilS, T.nilS, T.c (C.int IntKind.i64 (Int.ofNat 0))] } := by rfl
@[go_sem] theorem ty88 : tyI Try.prog 88 = some { size := 3, bytes := 56, zv := Value.agg { toList := [Value.int IntKind.i64 (Int.ofNat 0), Value.slice none 0 0, Value.slice none 0 0] }, kind := TK.struct [(0, 2), (1, 29)], cts := [(0, 0), (2, 1), (2, 1)], scal := false, psz := 0, zts := [T.c (C.int IntKind.i64 (Int.ofNat 0)), T.nilS, T.nilS] } := by rfl
@[go_sem] theorem ty89 : tyI Try.prog 89 = some { size := 3, bytes := 56, zv := Value.agg { toList := [Value.int IntKind.i64 (Int.ofNat 0), Value.slice none 0 0, Value.slice none 0 0] }, kind := TK.struct [(0, 2), (1, 29)], cts := [(0, 0), (2, 1), (2, 1)], scal := false, psz := 0, zts := [T.c (C.int IntKind.i64 (Int.ofNat 0)), T.nilS, T.nilS] } := by rfl
@[go_sem] theorem ty90 : tyI Try.prog 90 = some { size := 9, bytes := 152, zv := Value.agg { toList := [Value.int IntKind.i64 (Int.ofNat 0), Value.int IntKind.i64 (Int.ofNat 0), Value.slice none 0 0, Value.slice none 0 0, Value.int IntKind.i64 (Int.ofNat 0), Value.slice none 0 0, Value.slice none 0 0, Value.slice none 0 0, Value.int IntKind.i64 (Int.ofNat 0)] }, kind := TK.struct [(0, 2), (1, 89), (4, 59)], cts := [(0, 0), (0, 0), (2, 1), (2, 1), (0, 0), (2, 1), (2, 1), (2, 1), (0, 0)], scal := false, psz := 0, zts := [T.c (C.int IntKind.i64 (Int.ofNat 0)), T.c (C.int IntKind.i64 (Int.ofNat 0)), T.nilS, T.nilS, T.c (C.int IntKind.i64 (Int.ofNat 0)), T.nilS, T.nilS, T.nilS, T.c (C.int IntKind.i64 (Int.ofNat 0))] } := by rfl
@[go_sem] theorem ty91 : tyI Try.prog 91 = some { size := 9, bytes := 152, zv := Value.agg { toList := [Value.int IntKind.i64 (Int.ofNat 0), Value.int IntKind.i64 (Int.ofNat 0), Value.slice none 0 0, Value.slice none 0 0, Value.int IntKind.i64 (Int.ofNat 0), Value.slice none 0 0, Value.slice none 0 0, Value.slice none 0 0, Value.int IntKind.i64 (Int.ofNat 0)] }, kind := TK.struct [(0, 2), (1, 89), (4, 59)], cts := [(0, 0), (0, 0), (2, 1), (2, 1), (0, 0), (2, 1), (2, 1), (2, 1), (0, 0)], scal := false, psz := 0, zts := [T.c (C.int IntKind.i64 (Int.ofNat 0)), T.c (C.int IntKind.i64 (Int.ofNat 0)), T.nilS, T.nilS, T.c (C.int IntKind.i64 (Int.ofNat 0)), T.nilS, T.nilS, T.nilS, T.c (C.int IntKind.i64 (Int.ofNat 0))] } := by rfl
@[go_sem] theorem ty97 : tyI Try.prog 97 = some { size := 1, bytes := 24, zv := Value.slice none 0 0, kind := TK.slice 173, cts := [(173, 14)], scal := false, psz := 0, zts := [T.nilS] } := by rfl
@[go_sem] theorem ty100 : tyI Try.prog 100 = some { size := 1, bytes := 24, zv := Value.slice none 0 0, kind := TK.slice 177, cts := [(177, 14)], scal := false, psz := 0, zts := [T.nilS] } := by rfl
@[go_sem] theorem ty103 : tyI Try.prog 103 = some { size := 1, bytes := 24, zv := Value.slice none 0 0, kind := TK.slice 208, cts := [(208, 2)], scal := false, psz := 0, zts := [T.nilS] } := by rfl
@[go_sem] theorem ty104 : tyI Try.prog 104 = some { size := 4, bytes := 80, zv := Value.agg { toList := [Value.int IntKind.i64 (Int.ofNat 0), Value.slice none 0 0, Value.slice none 0 0, Value.slice none 0 0] }, kind := TK.struct [(0, 2), (1, 41), (2, 22), (3, 103)], cts := [(0, 0), (74, 4), (2, 1), (208, 2)], scal := false, psz := 0, zts := [T.c (C.int IntKind.i64 (Int.ofNat 0)), T.nilS, T.nilS, T.nilS] } := by rfl
@[go_sem] theorem ty105 : tyI Try.prog 105 = some { size := 4, bytes := 80, zv := Value.agg { toList := [Value.int IntKind.i64 (Int.ofNat 0), Value.slice none 0 0, Value.slice none 0 0, Value.slice none 0 0] }, kind := TK.struct [(0, 2), (1, 41), (2, 22), (3, 103)], cts := [(0, 0), (74, 4), (2, 1), (208, 2)], scal := false, psz := 0, zts := [T.c (C.int IntKind.i64 (Int.ofNat 0)), T.nilS, T.nilS, T.nilS] } := by rfl
@[go_sem] theorem ty108 : tyI Try.prog 108 = some { size := 1, bytes := 24, zv := Value.slice none 0 0, kind := TK.slice 185, cts := [(185, 2)], scal := false, psz := 0, zts := [T.nilS] } := by rfl
@[go_sem] theorem ty109 : tyI Try.prog 109 = some { size := 4, bytes := 80, zv := Value.agg { toList := [Value.int IntKind.i64 (Int.ofNat 0), Value.slice none 0 0, Value.slice none 0 0, Value.slice none 0 0] }, kind := TK.struct [(0, 2), (1, 44), (2, 22), (3, 108)], cts := [(0, 0), (78, 4), (2, 1), (185, 2)], scal := false, psz := 0, zts := [T.c (C.int IntKind.i64 (Int.ofNat 0)), T.nilS, T.nilS, T.nilS] } := by rfl
@[go_sem] theorem ty110 : tyI Try.prog 110 = some { size := 4, bytes := 80, zv := Value.agg { toList := [Value.int IntKind.i64 (Int.ofNat 0), Value.slice none 0 0, Value.slice none 0 0, Value.slice none 0 0] }, kind := TK.struct [(0, 2), (1, 44), (2, 22), (3, 108)], cts := [(0, 0), (78, 4), (2, 1), (185, 2)], scal := false, psz := 0, zts := [T.c (C.int IntKind.i64 (Int.ofNat 0)), T.nilS, T.nilS, T.nilS] } := by rfl
@[go_sem] theorem ty113 : tyI Try.prog 113 = some { size := 11, bytes := 168, zv := Value.agg { toList := [Value.bool false, Value.int IntKind.i64 (Int.ofNat 0), Value.int IntKind.i64 (Int.ofNat 0), Value.int IntKind.i64 (Int.ofNat 0), Value.slice none 0 0, Value.slice none 0 0, Value.int IntKind.i64 (Int.ofNat 0), Value.slice none 0 0, Value.slice none 0 0, Value.slice none 0 0, Value.int IntKind.i64 (Int.ofNat 0)] }, kind := TK.struct [(0, 4), (1, 2), (2, 85)], cts := [(0, 0), (0, 0), (0, 0), (0, 0), (2, 1), (2, 1), (0, 0), (2, 1), (2, 1), (2, 1), (0, 0)], scal := false, psz := 0, zts := [T.c (C.bool false), T.c (C.int IntKind.i64 (Int.ofNat 0)), T.c (C.int IntKind.i64 (Int.ofNat 0)), T.c (C.int IntKind.i64 (Int.ofNat 0)), T.nilS, T.nilS, T.c (C.int IntKind.i64 (Int.ofNat 0)), T.nilS, T.nilS, T.nilS, T.c (C.int IntKind.i64 (Int.ofNat 0))] } := by rfl
@[go_sem] theorem ty114 : tyI Try.prog 114 = some { size := 11, bytes := 168, zv := Value.agg { toList := [Value.bool false, Value.int IntKind.i64 (Int.ofNat 0), Value.int IntKind.i64 (Int.ofNat 0), Value.int IntKind.i64 (Int.ofNat 0), Value.slice none 0 0, Value.slice none 0 0, Value.int IntKind.i64 (Int.ofNat 0), Value.slice none 0 0, Value.slice none 0 0, Value.slice none 0 0, Value.int IntKind.i64 (Int.ofNat 0)] }, kind := TK.struct [(0, 4), (1, 2), (2, 85)], cts := [(0, 0), (0, 0), (0, 0), (0, 0), (2, 1), (2, 1), (0, 0), (2, 1), (2, 1), (2, 1), (0, 0)], scal := false, psz := 0, zts := [T.c (C.bool false), T.c (C.int IntKind.i64 (Int.ofNat 0)), T.c (C.int IntKind.i64 (Int.ofNat 0)), T.c (C.int IntKind.i64 (Int.ofNat 0)), T.nilS, T.nilS, T.c (C.int IntKind.i64 (Int.ofNat 0)), T.nilS, T.nilS, T.nilS, T.c (C.int IntKind.i64 (Int.ofNat 0))] } := by rfl
@[go_sem] theorem ty117 : tyI Try.prog 117 = some { size := 11, bytes := 168, zv := Value.agg { toList := [Value.bool false, Value.int IntKind.i64 (Int.ofNat 0), Value.int IntKind.i64 (Int.ofNat 0), Value.int IntKind.i64 (Int.ofNat 0), Value.slice none 0 0, Value.slice none 0 0, Value.int IntKind.i64 (Int.ofNat 0), Value.slice none 0 0, Value.slice none 0 0, Value.slice none 0 0, Value.int IntKind.i64 (Int.ofNat 0)] }, kind := TK.struct [(0, 4), (1, 2), (2, 91)], cts := [(0, 0), (0, 0), (0, 0), (0, 0), (2, 1), (2, 1), (0, 0), (2, 1), (2, 1), (2, 1), (0, 0)], scal := false, psz := 0, zts := [T.c (C.bool false), T.c (C.int IntKind.i64 (Int.ofNat 0)), T.c (C.int IntKind.i64 (Int.ofNat 0)), T.c (C.int IntKind.i64 (Int.ofNat 0)), T.nilS, T.nilS, T.c (C.int IntKind.i64 (Int.ofNat 0)), T.nilS, T.nilS, T.nilS, T.c (C.int IntKind.i64 (Int.ofNat 0))] } := by rfl
@[go_sem] theorem ty118 : tyI Try.prog 118 = some { size := 11, bytes := 168, zv := Value.agg { toList := [Value.bool false, Value.int IntKind.i64 (Int.ofNat 0), Value.int IntKind.i64 (Int.ofNat 0), Value.int IntKind.i64 (Int.ofNat 0), Value.slice none 0 0, Value.slice none 0 0, Value.int IntKind.i64 (Int.ofNat 0), Value.slice none 0 0, Value.slice none 0 0, Value.slice none 0 0, Value.int IntKind.i64 (Int.ofNat 0)] }, kind := TK.struct [(0, 4), (1, 2), (2, 91)], cts := [(0, 0), (0, 0), (0, 0), (0, 0), (2, 1), (2, 1), (0, 0), (2, 1), (2, 1), (2, 1), (0, 0)], scal := false, psz := 0, zts := [T.c (C.bool false), T.c (C.int IntKind.i64 (Int.ofNat 0)), T.c (C.int IntKind.i64 (Int.ofNat 0)), T.c (C.int IntKind.i64 (Int.ofNat 0)), T.nilS, T.nilS, T.c (C.int IntKind.i64 (Int.ofNat 0)), T.nilS, T.nilS, T.nilS, T.c (C.int IntKind.i64 (Int.ofNat 0))] } := by rfl
@[go_sem] theorem ty124 : tyI Try.prog 124 = some { size := 1, bytes := 8, zv := Value.pointer none, kind := TK.other, cts := [(2, 1), (2, 1)], scal := false, psz := 2, zts := [T.un] } := by rfl
@[go_sem] theorem ty133 : tyI Try.prog 133 = some { size := 1, bytes := 8, zv := Value.pointer none, kind := TK.other, cts := [(0, 0), (2, 1), (2, 1)], scal := false, psz := 3, zts := [T.un] } := by rfl
@[go_sem] theorem ty140 : tyI Try.prog 140 = some { size := 4, bytes := 64, zv := Value.agg { toList := [Value.slice none 0 0, Value.slice none 0 0, Value.int IntKind.i64 (Int.ofNat 0), Value.int IntKind.i64 (Int.ofNat 0)] }, kind := TK.struct [(0, 24), (2, 2), (3, 2)], cts := [(2, 1), (2, 1), (0, 0), (0, 0)], scal := false, psz := 0, zts := [T.nilS, T.nilS, T.c (C.int IntKind.i64 (Int.ofNat 0)), T.c (C.int IntKind.i64 (Int.ofNat 0))] } := by rfl
@[go_sem] theorem ty141 : tyI Try.prog 141 = some { size := 4, bytes := 64, zv := Value.agg { toList := [Value.slice none 0 0, Value.slice none 0 0, Value.int IntKind.i64 (Int.ofNat 0), Value.int IntKind.i64 (Int.ofNat 0)] }, kind := TK.struct [(0, 24), (2, 2), (3, 2)], cts := [(2, 1), (2, 1), (0, 0), (0, 0)], scal := false, psz := 0, zts := [T.nilS, T.nilS, T.c (C.int IntKind.i64 (Int.ofNat 0)), T.c (C.int IntKind.i64 (Int.ofNat 0))] } := by rfl
@[go_sem] theorem ty143 : tyI Try.prog 143 = some { size := 1, bytes := 8, zv := Value.pointer none, kind := TK.other, cts := [(2, 1), (2, 1), (0, 0), (0, 0)], scal := false, psz := 4, zts := [T.un] } := by rfl
@[go_sem] theorem ty144 : tyI Try.prog 144 = some { size := 4, bytes := 64, zv := Value.agg { toList := [Value.slice none 0 0, Value.slice none 0 0, Value.int IntKind.i64 (Int.ofNat 0), Value.int IntKind.i64 (Int.ofNat 0)] }, kind := TK.struct [(0, 29), (2, 2), (3, 2)], cts := [(2, 1), (2, 1), (0, 0), (0, 0)], scal := false, psz := 0, zts := [T.nilS, T.nilS, T.c (C.int IntKind.i64 (Int.ofNat 0)), T.c (C.int IntKind.i64 (Int.ofNat 0))] } := by rfl
@[go_sem] theorem ty145 : tyI Try.prog 145 = some { size := 4, bytes := 64, zv := Value.agg { toList := [Value.slice none 0 0, Value.slice none 0 0, Value.int IntKind.i64 (Int.ofNat 0), Value.int IntKind.i64 (Int.ofNat 0)] }, kind := TK.struct [(0, 29), (2, 2), (3, 2)], cts := [(2, 1), (2, 1), (0, 0), (0, 0)], scal := false, psz := 0, zts := [T.nilS, T.nilS, T.c (C.int IntKind.i64 (Int.ofNat 0)), T.c (C.int IntKind.i64 (Int.ofNat 0))] } := by rfl
@[go_sem] theorem ty153 : tyI Try.prog 153 = some { size := 1, bytes := 8, zv := Value.pointer none, kind := TK.other, cts := [(0, 0), (2, 1), (2, 1), (2, 1), (0, 0)], scal := false, psz := 5, zts := [T.un] } := by rfl
@[go_sem] theorem ty157 : tyI Try.prog 157 = some { size := 3, bytes := 24, zv := Value.agg { toList := [Value.int IntKind.i64 (Int.ofNat 0), Value.int IntKind.i64 (Int.ofNat 0), Value.int IntKind.i64 (Int.ofNat 0)] }, kind := TK.struct [(0, 2), (1, 2), (2, 2)], cts := [(0, 0), (0, 0), (0, 0)], scal := true, psz := 0, zts := [T.c (C.int IntKind.i64 (Int.ofNat 0)), T.c (C.int IntKind.i64 (Int.ofNat 0)), T.c (C.int IntKind.i64 (Int.ofNat 0))] } := by rfl
@[go_sem] theorem ty158 : tyI Try.prog 158 = some { size := 3, bytes := 24, zv := Value.agg { toList := [Value.int IntKind.i64 (Int.ofNat 0), Value.int IntKind.i64 (Int.ofNat 0), Value.int IntKind.i64 (Int.ofNat 0)] }, kind := TK.struct [(0, 2), (1, 2), (2, 2)], cts := [(0, 0), (0, 0), (0, 0)], scal := true, psz := 0, zts := [T.c (C.int IntKind.i64 (Int.ofNat 0)), T.c (C.int IntKind.i64 (Int.ofNat 0)), T.c (C.int IntKind.i64 (Int.ofNat 0))] } := by rfl
@[go_sem] theorem ty170 : tyI Try.prog 170 = some { size := 2, bytes := 32, zv := Value.agg { toList := [Value.int IntKind.i64 (Int.ofNat 0), Value.slice none 0 0] }, kind := TK.struct [(0, 2), (1, 34)], cts := [(0, 0), (83, 3)], scal := false, psz := 0, zts := [T.c (C.int IntKind.i64 (Int.ofNat 0)), T.nilS] } := by rfl
@[go_sem] theorem ty171 : tyI Try.prog 171 = some { size := 2, bytes := 32, zv := Value.agg { toList := [Value.int IntKind.i64 (Int.ofNat 0), Value.slice none 0 0] }, kind := TK.struct [(0, 2), (1, 34)], cts := [(0, 0), (83, 3)], scal := false, psz := 0, zts := [T.c (C.int IntKind.i64 (Int.ofNat 0)), T.nilS] } := by rfl
@[go_sem] theorem ty172 : tyI Try.prog 172 = some { size := 14, bytes := 208, zv := Value.agg { toList := [Value.int IntKind.i64 (Int.ofNat 0), Value.int IntKind.i64 (Int.ofNat 0), Value.int IntKind.i64 (Int.ofNat 0), Value.int IntKind.i64 (Int.ofNat 0), Value.int IntKind.i64 (Int.ofNat 0), Value.slice none 0 0, Value.slice none 0 0, Value.int IntKind.i64 (Int.ofNat 0), Value.slice none 0 0, Value.slice none 0 0, Value.slice none 0 0, Value.int IntKind.i64 (Int.ofNat 0), Value.int IntKind.i64 (Int.ofNat 0), Value.slice none 0 0] }, kind := TK.struct [(0, 2), (1, 2), (2, 2), (3, 85), (12, 171)], cts := [(0, 0), (0, 0), (0, 0), (0, 0), (0, 0), (2, 1), (2, 1), (0, 0), (2, 1), (2, 1), (2, 1), (0, 0), (0, 0), (83, 3)], scal := false, psz := 0, zts := [T.c (C.int IntKind.i64 (Int.ofNat 0)), T.c (C.int IntKind.i64 (Int.ofNat 0)), T.c (C.int IntKind.i64 (Int.ofNat 0)), T.c (C.int IntKind.i64 (Int.ofNat 0)), T.c (C.int IntKind.i64 (Int.ofNat 0)), T.nilS, T.nilS, T.c (C.int IntKind.i64 (Int.ofNat 0)), T.nilS, T.nilS, T.nilS, T.c (C.int IntKind.i64 (Int.ofNat 0)), T.c (C.int IntKind.i64 (Int.ofNat 0)), T.nilS] } := by rfl
@[go_sem] theorem ty173 : tyI Try.prog 173 = some { size := 14, bytes := 208, zv := Value.agg { toList := [Value.int IntKind.i64 (Int.ofNat 0), Value.int IntKind.i64 (Int.ofNat 0), Value.int IntKind.i64 (Int.ofNat 0), Value.int IntKind.i64 (Int.ofNat 0), Value.int IntKind.i64 (Int.ofNat 0), Value.slice none 0 0, Value.slice none 0 0, Value.int IntKind.i64 (Int.ofNat 0), Value.slice none 0 0, Value.slice none 0 0, Value.slice none 0 0, Value.int IntKind.i64 (Int.ofNat 0), Value.int IntKind.i64 (Int.ofNat 0), Value.slice none 0 0] }, kind := TK.struct [(0, 2), (1, 2), (2, 2), (3, 85), (12, 171)], cts := [(0, 0), (0, 0), (0, 0), (0, 0), (0, 0), (2, 1), (2, 1), (0, 0), (2, 1), (2, 1), (2, 1), (0, 0), (0, 0), (83, 3)], scal := false, psz := 0, zts := [T.c (C.int IntKind.i64 (Int.ofNat 0)), T.c (C.int IntKind.i64 (Int.ofNat 0)), T.c (C.int IntKind.i64 (Int.ofNat 0)), T.c (C.int IntKind.i64 (Int.ofNat 0)), T.c (C.int IntKind.i64 (Int.ofNat 0)), T.nilS, T.nilS, T.c (C.int IntKind.i64 (Int.ofNat 0)), T.nilS, T.nilS, T.nilS, T.c (C.int IntKind.i64 (Int.ofNat 0)), T.c (C.int IntKind.i64 (Int.ofNat 0)), T.nilS] } := by rfl
@[go_sem] theorem ty174 : tyI Try.prog 174 = some { size := 2, bytes := 32, zv := Value.agg { toList := [Value.int IntKind.i64 (Int.ofNat 0), Value.slice none 0 0] }, kind := TK.struct [(0, 2), (1, 37)], cts := [(0, 0), (89, 3)], scal := false, psz := 0, zts := [T.c (C.int IntKind.i64 (Int.ofNat 0)), T.nilS] } := by rfl
@[go_sem] theorem ty175 : tyI Try.prog 175 = some { size := 2, bytes := 32, zv := Value.agg { toList := [Value.int IntKind.i64 (Int.ofNat 0), Value.slice none 0 0] }, kind := TK.struct [(0, 2), (1, 37)], cts := [(0, 0), (89, 3)], scal := false, psz := 0, zts := [T.c (C.int IntKind.i64 (Int.ofNat 0)), T.nilS] } := by rfl
@[go_sem] theorem ty176 : tyI Try.prog 176 = some { size := 14, bytes := 208, zv := Value.agg { toList := [Value.int IntKind.i64 (Int.ofNat 0), Value.int IntKind.i64 (Int.ofNat 0), Value.int IntKind.i64 (Int.ofNat 0), Value.int IntKind.i64 (Int.ofNat 0), Value.int IntKind.i64 (Int.ofNat 0), Value.slice none 0 0, Value.slice none 0 0, Value.int IntKind.i64 (Int.ofNat 0), Value.slice none 0 0, Value.slice none 0 0, Value.slice none 0 0, Value.int IntKind.i64 (Int.ofNat 0), Value.int IntKind.i64 (Int.ofNat 0), Value.slice none 0 0] }, kind := TK.struct [(0, 2), (1, 2), (2, 2), (3, 91), (12, 175)], cts := [(0, 0), (0, 0), (0, 0), (0, 0), (0, 0), (2, 1), (2, 1), (0, 0), (2, 1), (2, 1), (2, 1), (0, 0), (0, 0), (89, 3)], scal := false, psz := 0, zts := [T.c (C.int IntKind.i64 (Int.ofNat 0)), T.c (C.int IntKind.i64 (Int.ofNat 0)), T.c (C.int IntKind.i64 (Int.ofNat 0)), T.c (C.int IntKind.i64 (Int.ofNat 0)), T.c (C.int IntKind.i64 (Int.ofNat 0)), T.nilS, T.nilS, T.c (C.int IntKind.i64 (Int.ofNat 0)), T.nilS, T.nilS, T.nilS, T.c (C.int IntKind.i64 (Int.ofNat 0)), T.c (C.int IntKind.i64 (Int.ofNat 0)), T.nilS] } := by rfl
@[go_sem] theorem ty177 : tyI Try.prog 177 = some { size := 14, bytes := 208, zv := Value.agg { toList := [Value.int IntKind.i64 (Int.ofNat 0), Value.int IntKind.i64 (Int.ofNat 0), Value.int IntKind.i64 (Int.ofNat 0), Value.int IntKind.i64 (Int.ofNat 0), Value.int IntKind.i64 (Int.ofNat 0), Value.slice none 0 0, Value.slice none 0 0, Value.int IntKind.i64 (Int.ofNat 0), Value.slice none 0 0, Value.slice none 0 0, Value.slice none 0 0, Value.int IntKind.i64 (Int.ofNat 0), Value.int IntKind.i64 (Int.ofNat 0), Value.slice none 0 0] }, kind := TK.struct [(0, 2), (1, 2), (2, 2), (3, 91), (12, 175)], cts := [(0, 0), (0, 0), (0, 0), (0, 0), (0, 0), (2, 1), (2, 1), (0, 0), (2, 1), (2, 1), (2, 1), (0, 0), (0, 0), (89, 3)], scal := false, psz := 0, zts := [T.c (C.int IntKind.i64 (Int.ofNat 0)), T.c (C.int IntKind.i64 (Int.ofNat 0)), T.c (C.int IntKind.i64 (Int.ofNat 0)), T.c (C.int IntKind.i64 (Int.ofNat 0)), T.c (C.int IntKind.i64 (Int.ofNat 0)), T.nilS, T.nilS, T.c (C.int IntKind.i64 (Int.ofNat 0)), T.nilS, T.nilS, T.nilS, T.c (C.int IntKind.i64 (Int.ofNat 0)), T.c (C.int IntKind.i64 (Int.ofNat 0)), T.nilS] } := by rfl
@[go_sem] theorem ty179 : tyI Try.prog 179 = some { size := 1, bytes := 8, zv := Value.pointer none, kind := TK.other, cts := [(0, 0), (0, 0), (2, 1), (2, 1), (0, 0), (2, 1), (2, 1), (2, 1), (0, 0)], scal := false, psz := 9, zts := [T.un] } := by rfl
@[go_sem] theorem ty184 : tyI Try.prog 184 = some { size := 2, bytes := 32, zv := Value.agg { toList := [Value.int IntKind.i64 (Int.ofNat 0), Value.slice none 0 0] }, kind := TK.struct [(0, 2), (1, 22)], cts := [(0, 0), (2, 1)], scal := false, psz := 0, zts := [T.c (C.int IntKind.i64 (Int.ofNat 0)), T.nilS] } := by rfl
@[go_sem] theorem ty185 : tyI Try.prog 185 = some { size := 2, bytes := 32, zv := Value.agg { toList := [Value.int IntKind.i64 (Int.ofNat 0), Value.slice none 0 0] }, kind := TK.struct [(0, 2), (1, 22)], cts := [(0, 0), (2, 1)], scal := false, psz := 0, zts := [T.c (C.int IntKind.i64 (Int.ofNat 0)), T.nilS] } := by rfl
@[go_sem] theorem ty201 : tyI Try.prog 201 = some { size := 3, bytes := 24, zv := Value.agg { toList := [Value.int IntKind.i64 (Int.ofNat 0), Value.int IntKind.i64 (Int.ofNat 0), Value.int IntKind.i64 (Int.ofNat 0)] }, kind := TK.struct [(0, 2), (1, 2), (2, 2)], cts := [(0, 0), (0, 0), (0, 0)], scal := true, psz := 0, zts := [T.c (C.int IntKind.i64 (Int.ofNat 0)), T.c (C.int IntKind.i64 (Int.ofNat 0)), T.c (C.int IntKind.i64 (Int.ofNat 0))] } := by rfl
@[go_sem] theorem ty208 : tyI Try.prog 208 = some { size := 2, bytes := 32, zv := Value.agg { toList := [Value.int IntKind.i64 (Int.ofNat 0), Value.slice none 0 0] }, kind := TK.struct [(0, 2), (1, 22)], cts := [(0, 0), (2, 1)], scal := false, psz := 0, zts := [T.c (C.int IntKind.i64 (Int.ofNat 0)), T.nilS] } := by rfl
@[go_sem] theorem ty221 : tyI Try.prog 221 = some { size := 1, bytes := 4, zv := Value.int IntKind.u32 (Int.ofNat 0), kind := TK.int IntKind.u32, cts := [(0, 0)], scal := true, psz := 0, zts := [T.c (C.int IntKind.u32 (Int.ofNat 0))] } := by rfl
theorem follows_of {fr : Fr} (hP : fr.P = Try.prog) : (envOf fr Try.prog).fr.P.follows .mixedOrders = true := by rw [envOf_fr, hP]; rfl

@[go_sem] abbrev aI (n : Int) : Arg := .d (false, [.int .i64 n])
@[go_sem] abbrev rI (n : Int) : List Dat := [(false, [.int .i64 n])]
@[go_sem] abbrev rB (b : Bool) : List Dat := [(false, [.bool b])]
/-- A slice of numbers, as an argument and as a result of its own. -/
@[go_sem] abbrev sI (xs : List Int) : C := .sl none 1 (xs.map eI)
@[go_sem] abbrev oI (xs : List Int) : C := .sl (some 2) 1 (xs.map eI)
@[go_sem] abbrev aL (xs : List Int) : Arg := .d (false, [sI xs])
@[go_sem] abbrev rL (xs : List Int) : List Dat := [(false, [oI xs])]
theorem bndL {xs : List Int} {gs : List Arg} (h : Args.bnd (aL xs :: gs)) : xs.length ≤ maxLen := by
  have := h.1.1.1; rwa [List.length_map] at this
def inB (a b c : Int) : Bool := decide (b ≤ a) && decide (a ≤ c)
theorem s_l1In (a b c : Int) : Sat Try.prog 83 [aI a, aI b, aI c] true (rB (inB a b c)) := by
  refine sat_walk (fn := Try.f83) rfl rfl rfl (Nat.le_of_ble_eq_true rfl) fun fr hP hN hbnd => ?_
  have hE : (envOf fr Try.prog).Ok := envOf_ok hP
  have hM := follows_of hP
  have hS : ∀ {draw ops}, statB Try.f83.ntmps draw ops = true → statB (envOf fr Try.prog).fr.N draw ops = true := fun h => by rw [envOf_fr, hN]; exact h
  repeat' (first
    | exact True.intro
    | refine ev_seq ?_
    | ((first | refine vgd_go ?_ | refine ev_region hE hM (hS (by decide +kernel)) ?_ | refine ev_if ?_ | refine end_ret hE rfl rfl ?_ | refine end_norm hE rfl rfl ?_ | refine vcall_A ?_); simp (maxSteps := 2000000) only [go_sem, hP, ↓reduceIte, Nat.reduceAdd, Nat.reduceMul, Nat.reduceEqDiff, Nat.reduceSub, Nat.reduceLeDiff, reduceCtorEq])
    | refine ev_skip ?_ | refine ev_block ?_ | refine ev_blk ?_ | refine ev_ret ?_ | refine ev_exit ?_ | refine evx_code_ret ?_ | refine evx_blk_ret ?_ | refine evx_lp_ret ?_
    | refine evx_code_exit ?_ | refine evx_lp_exit ?_ | refine evx_blk_hit ?_ | refine evx_blk_pass (by decide) ?_
    | refine And.intro ?_ ?_ | intro _ | decide +kernel | omega)
  all_goals simp_all [inB] <;> omega
theorem s_within (a b c : Int) : Sat Try.prog 115 [aI a, aI b, aI c] true (rB (inB a b c)) := by
  refine sat_walk (fn := Try.f115) rfl rfl rfl (Nat.le_of_ble_eq_true rfl) fun fr hP hN hbnd => ?_
  have hE : (envOf fr Try.prog).Ok := envOf_ok hP
  have hM := follows_of hP
  have hS : ∀ {draw ops}, statB Try.f115.ntmps draw ops = true → statB (envOf fr Try.prog).fr.N draw ops = true := fun h => by rw [envOf_fr, hN]; exact h
  repeat' (first
    | exact True.intro
    | refine ev_seq ?_
    | ((first | refine vgd_go ?_ | refine ev_region hE hM (hS (by decide +kernel)) ?_ | refine ev_if ?_ | refine end_ret hE rfl rfl ?_ | refine end_norm hE rfl rfl ?_ | refine vcall_A ?_); simp (maxSteps := 2000000) only [go_sem, hP, ↓reduceIte, Nat.reduceAdd, Nat.reduceMul, Nat.reduceEqDiff, Nat.reduceSub, Nat.reduceLeDiff, reduceCtorEq])
    | refine ev_skip ?_ | refine ev_block ?_ | refine ev_blk ?_ | refine ev_ret ?_ | refine ev_exit ?_ | refine evx_code_ret ?_ | refine evx_blk_ret ?_ | refine evx_lp_ret ?_
    | refine evx_code_exit ?_ | refine evx_lp_exit ?_ | refine evx_blk_hit ?_ | refine evx_blk_pass (by decide) ?_
    | refine And.intro ?_ ?_ | intro _ | decide +kernel | omega)
  all_goals simp_all [inB] <;> omega
theorem s_isDims (a : Int) : Sat Try.prog 86 [aI a] true (rB (inB a 2 3)) := by
  refine sat_walk (fn := Try.f86) rfl rfl rfl (Nat.le_of_ble_eq_true rfl) fun fr hP hN hbnd => ?_
  have hE : (envOf fr Try.prog).Ok := envOf_ok hP
  have hM := follows_of hP
  have hS : ∀ {draw ops}, statB Try.f86.ntmps draw ops = true → statB (envOf fr Try.prog).fr.N draw ops = true := fun h => by rw [envOf_fr, hN]; exact h
  repeat' (first
    | exact True.intro
    | refine ev_seq ?_
    | ((first | refine vgd_go ?_ | refine ev_region hE hM (hS (by decide +kernel)) ?_ | refine ev_if ?_ | refine end_ret hE rfl rfl ?_ | refine end_norm hE rfl rfl ?_ | refine vcall_A ?_ | refine vcallB_of hP (s_within _ _ _) ?_); simp (maxSteps := 2000000) only [go_sem, hP, ↓reduceIte, Nat.reduceAdd, Nat.reduceMul, Nat.reduceEqDiff, Nat.reduceSub, Nat.reduceLeDiff, reduceCtorEq])
    | refine ev_skip ?_ | refine ev_block ?_ | refine ev_blk ?_ | refine ev_ret ?_ | refine ev_exit ?_ | refine evx_code_ret ?_ | refine evx_blk_ret ?_ | refine evx_lp_ret ?_
    | refine evx_code_exit ?_ | refine evx_lp_exit ?_ | refine evx_blk_hit ?_ | refine evx_blk_pass (by decide) ?_
    | refine And.intro ?_ ?_ | intro _ | decide +kernel | omega)
theorem s_toInt64S (xs : List Int) (hx : xs.length ≤ 1048576) : Sat Try.prog 76 [aL xs] true (rL xs) := by
  refine sat_walk (fn := Try.f76) rfl rfl rfl (Nat.le_of_ble_eq_true rfl) fun fr hP hN hbnd => ?_
  have hE : (envOf fr Try.prog).Ok := envOf_ok hP
  have hM := follows_of hP
  have hS : ∀ {draw ops}, statB Try.f76.ntmps draw ops = true → statB (envOf fr Try.prog).fr.N draw ops = true := fun h => by rw [envOf_fr, hN]; exact h
  repeat' (first
    | exact True.intro
    | refine ev_seq ?_
    | ((first | refine vgd_go ?_ | refine ev_region hE hM (hS (by decide +kernel)) ?_ | refine ev_if ?_ | refine end_ret hE rfl rfl ?_ | refine end_norm hE rfl rfl ?_ | refine vcall_A ?_); simp (maxSteps := 2000000) only [go_sem, hP, ↓reduceIte, Nat.reduceAdd, Nat.reduceMul, Nat.reduceEqDiff, Nat.reduceSub, Nat.reduceLeDiff, reduceCtorEq])
    | refine ev_skip ?_ | refine ev_block ?_ | refine ev_blk ?_ | refine ev_ret ?_ | refine ev_exit ?_ | refine evx_code_ret ?_ | refine evx_blk_ret ?_ | refine evx_lp_ret ?_
    | refine evx_code_exit ?_ | refine evx_lp_exit ?_ | refine evx_blk_hit ?_ | refine evx_blk_pass (by decide) ?_
    | refine And.intro ?_ ?_ | intro _ | decide +kernel | omega)
  refine ev_loop (ι := Nat) (fun k => [(0, .c (sI xs)), (3, .ref 4112), (4, .c (.int .i64 k))]) (fun k => [(4112, .arr true 2 1 ((mix xs 0 k).map eI))]) (fun _ => []) (fun k => k ≤ xs.length) (fun k => xs.length - k) 0 [] (by simp) (by simp only [go_sem, hP, ↓reduceIte, Nat.reduceAdd, Nat.reduceMul, Nat.reduceEqDiff, Nat.reduceSub, Nat.reduceLeDiff, reduceCtorEq]; simp [mix_zero, eI]) ?_
  intro k hk
  repeat' (first
    | exact True.intro
    | refine ev_seq ?_
    | ((first | refine vgd_go ?_ | refine ev_region hE hM (hS (by decide +kernel)) ?_ | refine ev_if ?_ | refine end_ret hE rfl rfl ?_ | refine end_norm hE rfl rfl ?_ | refine vcall_A ?_); simp (maxSteps := 2000000) only [go_sem, hP, ↓reduceIte, Nat.reduceAdd, Nat.reduceMul, Nat.reduceEqDiff, Nat.reduceSub, Nat.reduceLeDiff, reduceCtorEq, mix_length hk])
    | refine ev_skip ?_ | refine ev_block ?_ | refine ev_blk ?_ | refine ev_ret ?_ | refine ev_exit ?_ | refine evx_code_ret ?_ | refine evx_blk_ret ?_ | refine evx_lp_ret ?_
    | refine evx_code_exit ?_ | refine evx_lp_exit ?_ | refine evx_blk_hit ?_ | refine evx_blk_pass (by decide) ?_
    | refine And.intro ?_ ?_ | intro _ | decide +kernel | omega)
  · exact ev_lp (k + 1) [] (by omega) (by omega) (by simp only [go_sem, hP, ↓reduceIte, Nat.reduceAdd, Nat.reduceMul, Nat.reduceEqDiff, Nat.reduceSub, Nat.reduceLeDiff, reduceCtorEq]; simp; exact ⟨wrap_succ (by omega) hx, mix_set_map (f := eI) (by omega)⟩)
  · rw [mix_full (by omega)]
theorem s_eqInt64S (xs ys : List Int) : Sat Try.prog 81 [aL xs, aL ys] true (rB (decide (xs = ys))) := by
  refine sat_walk (fn := Try.f81) rfl rfl rfl (Nat.le_of_ble_eq_true rfl) fun fr hP hN hbnd => ?_
  have hE : (envOf fr Try.prog).Ok := envOf_ok hP
  have hM := follows_of hP
  have hS : ∀ {draw ops}, statB Try.f81.ntmps draw ops = true → statB (envOf fr Try.prog).fr.N draw ops = true := fun h => by rw [envOf_fr, hN]; exact h
  have hlen := bndL hbnd
  repeat' (first
    | exact True.intro
    | refine ev_seq ?_
    | ((first | refine vgd_go ?_ | refine ev_region hE hM (hS (by decide +kernel)) ?_ | refine ev_if ?_ | refine end_ret hE rfl rfl ?_ | refine end_norm hE rfl rfl ?_ | refine vcall_A ?_); simp (maxSteps := 2000000) only [go_sem, hP, ↓reduceIte, Nat.reduceAdd, Nat.reduceMul, Nat.reduceEqDiff, Nat.reduceSub, Nat.reduceLeDiff, reduceCtorEq])
    | refine ev_skip ?_ | refine ev_block ?_ | refine ev_blk ?_ | refine ev_ret ?_ | refine ev_exit ?_ | refine evx_code_ret ?_ | refine evx_blk_ret ?_ | refine evx_lp_ret ?_
    | refine evx_code_exit ?_ | refine evx_lp_exit ?_ | refine evx_blk_hit ?_ | refine evx_blk_pass (by decide) ?_
    | refine And.intro ?_ ?_ | intro _ | decide +kernel | omega)
  · rename_i h; simp at h; simp; rintro rfl; exact h rfl
  rename_i h; simp at h
  refine ev_loop (ι := Nat) (fun k => [(0, .c (sI xs)), (1, .c (sI ys)), (5, .c (.int .i64 k))]) (fun k => []) (fun _ => []) (fun k => k ≤ xs.length ∧ xs.take k = ys.take k) (fun k => xs.length - k) 0 [] (by simp) (by simp only [go_sem, hP, ↓reduceIte, Nat.reduceAdd, Nat.reduceMul, Nat.reduceEqDiff, Nat.reduceSub, Nat.reduceLeDiff, reduceCtorEq]; simp) ?_
  intro k hk
  repeat' (first
    | exact True.intro
    | refine ev_seq ?_
    | ((first | refine vgd_go ?_ | refine ev_region hE hM (hS (by decide +kernel)) ?_ | refine ev_if ?_ | refine end_ret hE rfl rfl ?_ | refine end_norm hE rfl rfl ?_ | refine vcall_A ?_); simp (maxSteps := 2000000) only [go_sem, hP, ↓reduceIte, Nat.reduceAdd, Nat.reduceMul, Nat.reduceEqDiff, Nat.reduceSub, Nat.reduceLeDiff, reduceCtorEq])
    | refine ev_skip ?_ | refine ev_block ?_ | refine ev_blk ?_ | refine ev_ret ?_ | refine ev_exit ?_ | refine evx_code_ret ?_ | refine evx_blk_ret ?_ | refine evx_lp_ret ?_
    | refine evx_code_exit ?_ | refine evx_lp_exit ?_ | refine evx_blk_hit ?_ | refine evx_blk_pass (by decide) ?_
    | refine And.intro ?_ ?_ | intro _ | decide +kernel | omega)
  · rename_i h3; simp at h3; simp; exact eq_not h3
  · rename_i h3 h4; simp at h4
    exact ev_lp (k + 1) [] ⟨by omega, eq_step (d := default) (e := default) (by omega) (by omega) hk.2 (by simpa using h4)⟩ (by omega) (by simp only [go_sem, hP, ↓reduceIte, Nat.reduceAdd, Nat.reduceMul, Nat.reduceEqDiff, Nat.reduceSub, Nat.reduceLeDiff, reduceCtorEq]; simp; exact wrap_nat (by omega) hlen)
  · simp; exact eq_done (by omega) (by omega) hk.2
/-- What is left of a bulk behind a count; below 0: none. -/
def lessN (n : Nat) (left : Int) : Int := if left - n < 0 then -1 else left - n
theorem s_szInt64S (xs : List Int) (left : Int) (h0 : 0 ≤ left) (h1 : left ≤ 1048576) : Sat Try.prog 73 [aL xs, aI left] true (rI (lessN xs.length left)) := by
  refine sat_walk (fn := Try.f73) rfl rfl rfl (Nat.le_of_ble_eq_true rfl) fun fr hP hN hbnd => ?_
  have hE : (envOf fr Try.prog).Ok := envOf_ok hP
  have hM := follows_of hP
  have hS : ∀ {draw ops}, statB Try.f73.ntmps draw ops = true → statB (envOf fr Try.prog).fr.N draw ops = true := fun h => by rw [envOf_fr, hN]; exact h
  have hlen := bndL hbnd
  have hm : maxLen = 9223372036854775807 := rfl
  have hw : IntKind.i64.wrap (left - xs.length) = left - xs.length := i64_in _ (by omega)
  repeat' (first
    | exact True.intro
    | refine ev_seq ?_
    | ((first | refine vgd_go ?_ | refine ev_region hE hM (hS (by decide +kernel)) ?_ | refine ev_if ?_ | refine end_ret hE rfl rfl ?_ | refine end_norm hE rfl rfl ?_ | refine vcall_A ?_); simp (maxSteps := 2000000) only [go_sem, hP, ↓reduceIte, Nat.reduceAdd, Nat.reduceMul, Nat.reduceEqDiff, Nat.reduceSub, Nat.reduceLeDiff, reduceCtorEq, hw])
    | refine ev_skip ?_ | refine ev_block ?_ | refine ev_blk ?_ | refine ev_ret ?_ | refine ev_exit ?_ | refine evx_code_ret ?_ | refine evx_blk_ret ?_ | refine evx_lp_ret ?_
    | refine evx_code_exit ?_ | refine evx_lp_exit ?_ | refine evx_blk_hit ?_ | refine evx_blk_pass (by decide) ?_
    | refine And.intro ?_ ?_ | intro _ | decide +kernel | omega)
  all_goals simp_all [lessN] <;> omega
def pf (xs : List Int) (d : Int) : Int := if inB d 2 3 then (if (xs.length : Int) = d then (if xs.all (inB · (-1000) 1000) then 0 else 3) else 2) else 3
theorem s_specPointFault (xs : List Int) (d : Int) : Sat Try.prog 152 [aL xs, aI d] true (rI (pf xs d)) := by
  refine sat_walk (fn := Try.f152) rfl rfl rfl (Nat.le_of_ble_eq_true rfl) fun fr hP hN hbnd => ?_
  have hE : (envOf fr Try.prog).Ok := envOf_ok hP
  have hM := follows_of hP
  have hS : ∀ {draw ops}, statB Try.f152.ntmps draw ops = true → statB (envOf fr Try.prog).fr.N draw ops = true := fun h => by rw [envOf_fr, hN]; exact h
  have hlen := bndL hbnd
  repeat' (first
    | exact True.intro
    | refine ev_seq ?_
    | ((first | refine vgd_go ?_ | refine ev_region hE hM (hS (by decide +kernel)) ?_ | refine ev_if ?_ | refine end_ret hE rfl rfl ?_ | refine end_norm hE rfl rfl ?_ | refine vcall_A ?_ | refine vcallB_of hP (s_l1In _ _ _) ?_); simp (maxSteps := 2000000) only [go_sem, hP, ↓reduceIte, Nat.reduceAdd, Nat.reduceMul, Nat.reduceEqDiff, Nat.reduceSub, Nat.reduceLeDiff, reduceCtorEq])
    | refine ev_skip ?_ | refine ev_block ?_ | refine ev_blk ?_ | refine ev_ret ?_ | refine ev_exit ?_ | refine evx_code_ret ?_ | refine evx_blk_ret ?_ | refine evx_lp_ret ?_
    | refine evx_code_exit ?_ | refine evx_lp_exit ?_ | refine evx_blk_hit ?_ | refine evx_blk_pass (by decide) ?_
    | refine And.intro ?_ ?_ | intro _ | decide +kernel | omega)
  · simp_all [pf]
  · simp_all [pf]
  rename_i h1 h2
  refine ev_loop (ι := Nat) (fun k => [(0, .c (sI xs)), (5, .c (.int .i64 k))]) (fun _ => []) (fun _ => []) (fun k => k ≤ xs.length ∧ (xs.take k).all (inB · (-1000) 1000)) (fun k => xs.length - k) 0 [] ⟨by simp, by simp⟩ (by simp only [go_sem, hP, ↓reduceIte, Nat.reduceAdd, Nat.reduceMul, Nat.reduceEqDiff, Nat.reduceSub, Nat.reduceLeDiff, reduceCtorEq]; simp) ?_
  intro k hk
  repeat' (first
    | exact True.intro
    | refine ev_seq ?_
    | ((first | refine vgd_go ?_ | refine ev_region hE hM (hS (by decide +kernel)) ?_ | refine ev_if ?_ | refine end_ret hE rfl rfl ?_ | refine end_norm hE rfl rfl ?_ | refine vcall_A ?_ | refine vcallB_of hP (s_l1In _ _ _) ?_); simp (maxSteps := 2000000) only [go_sem, hP, ↓reduceIte, Nat.reduceAdd, Nat.reduceMul, Nat.reduceEqDiff, Nat.reduceSub, Nat.reduceLeDiff, reduceCtorEq])
    | refine ev_skip ?_ | refine ev_block ?_ | refine ev_blk ?_ | refine ev_ret ?_ | refine ev_exit ?_ | refine evx_code_ret ?_ | refine evx_blk_ret ?_ | refine evx_lp_ret ?_
    | refine evx_code_exit ?_ | refine evx_lp_exit ?_ | refine evx_blk_hit ?_ | refine evx_blk_pass (by decide) ?_
    | refine And.intro ?_ ?_ | intro _ | decide +kernel | omega)
  · rename_i h3 h4
    simp_all [pf, all_not (p := (inB · (-1000) 1000)) (xs := xs) (k := k) (d := default) (by omega) (by simpa using h4)]
  · rename_i h3 h4
    refine ev_lp (k + 1) [] ⟨by omega, all_step (d := default) (by omega) hk.2 (by simpa using h4)⟩ (by omega) (by simp only [go_sem, hP, ↓reduceIte, Nat.reduceAdd, Nat.reduceMul, Nat.reduceEqDiff, Nat.reduceSub, Nat.reduceLeDiff, reduceCtorEq]; simp; exact wrap_nat (by omega) hlen)
  · rename_i h3
    simp_all [pf, all_done (p := (inB · (-1000) 1000)) (xs := xs) (k := k) (by omega) hk.2]
theorem s_IndexFuncI (xs : List Int) (sem : List Dat → List Dat → Prop) (p : Int → Bool) (hp : ∀ x ∈ xs, sem [(false, [.int .i64 x])] [(false, [.bool (p x)])]) :
    Sat Try.prog 178 [aL xs, .fn sem] true (rI (if xs.any p then (xs.findIdx p : Int) else -1)) := by
  refine sat_walk (fn := Try.f178) rfl rfl rfl (Nat.le_of_ble_eq_true rfl) fun fr hP hN hbnd => ?_
  have hE : (envOf fr Try.prog).Ok := envOf_ok hP
  have hM := follows_of hP
  have hS : ∀ {draw ops}, statB Try.f178.ntmps draw ops = true → statB (envOf fr Try.prog).fr.N draw ops = true := fun h => by rw [envOf_fr, hN]; exact h
  have hlen := bndL hbnd
  repeat' (first
    | exact True.intro
    | refine ev_seq ?_
    | ((first | refine vgd_go ?_ | refine ev_region hE hM (hS (by decide +kernel)) ?_ | refine ev_if ?_ | refine end_ret hE rfl rfl ?_ | refine end_norm hE rfl rfl ?_ | refine vcall_A ?_); simp (maxSteps := 2000000) only [go_sem, hP, ↓reduceIte, Nat.reduceAdd, Nat.reduceMul, Nat.reduceEqDiff, Nat.reduceSub, Nat.reduceLeDiff, reduceCtorEq])
    | refine ev_skip ?_ | refine ev_block ?_ | refine ev_blk ?_ | refine ev_ret ?_ | refine ev_exit ?_ | refine evx_code_ret ?_ | refine evx_blk_ret ?_ | refine evx_lp_ret ?_
    | refine evx_code_exit ?_ | refine evx_lp_exit ?_ | refine evx_blk_hit ?_ | refine evx_blk_pass (by decide) ?_
    | refine And.intro ?_ ?_ | intro _ | decide +kernel | omega)
  refine ev_loop (ι := Nat) (fun k => [(0, .c (sI xs)), (1, .fn sem), (7, .c (.int .i64 xs.length)), (8, .c (.int .i64 k))]) (fun k => []) (fun _ => []) (fun k => k ≤ xs.length ∧ (xs.take k).any p = false) (fun k => xs.length - k) 0 [] (by simp) (by simp only [go_sem, hP, ↓reduceIte, Nat.reduceAdd, Nat.reduceMul, Nat.reduceEqDiff, Nat.reduceSub, Nat.reduceLeDiff, reduceCtorEq]; simp) ?_
  intro k hk
  have hq : k < xs.length → sem [(false, [.int .i64 (xs.getD k default)])] [(false, [.bool (p (xs.getD k default))])] := fun h => hp _ (getD_mem h)
  repeat' (first
    | exact True.intro
    | refine ev_seq ?_
    | ((first | refine vgd_go ?_ | refine ev_region hE hM (hS (by decide +kernel)) ?_ | refine ev_if ?_ | refine end_ret hE rfl rfl ?_ | refine end_norm hE rfl rfl ?_ | refine vcall_A ?_ | refine vcallFn_of [(false, [.int .i64 (xs.getD k default)])] [] [(false, [.bool (p (xs.getD k default))])] (by simp only [go_sem, hP, ↓reduceIte, Nat.reduceAdd, Nat.reduceMul, Nat.reduceEqDiff, Nat.reduceSub, Nat.reduceLeDiff, reduceCtorEq]) (hq (by omega)) ?_); simp (maxSteps := 2000000) only [go_sem, hP, ↓reduceIte, Nat.reduceAdd, Nat.reduceMul, Nat.reduceEqDiff, Nat.reduceSub, Nat.reduceLeDiff, reduceCtorEq])
    | refine ev_skip ?_ | refine ev_block ?_ | refine ev_blk ?_ | refine ev_ret ?_ | refine ev_exit ?_ | refine evx_code_ret ?_ | refine evx_blk_ret ?_ | refine evx_lp_ret ?_
    | refine evx_code_exit ?_ | refine evx_lp_exit ?_ | refine evx_blk_hit ?_ | refine evx_blk_pass (by decide) ?_
    | refine And.intro ?_ ?_ | intro _ | decide +kernel | omega)
  · rename_i h1 h2
    rw [any_yes (d := default) (by omega) h2, findIdx_here (d := default) (by omega) hk.2 h2]; rfl
  · rename_i h1 h2
    exact ev_lp (k + 1) [] ⟨by omega, any_step (d := default) (by omega) hk.2 h2⟩ (by omega) (by simp only [go_sem, hP, ↓reduceIte, Nat.reduceAdd, Nat.reduceMul, Nat.reduceEqDiff, Nat.reduceSub, Nat.reduceLeDiff, reduceCtorEq]; simp; exact wrap_nat (by omega) hlen)
  · rw [any_done (by omega) hk.2]; rfl
theorem s_ContainsFuncI (xs : List Int) (sem : List Dat → List Dat → Prop) (p : Int → Bool) (hp : ∀ x ∈ xs, sem [(false, [.int .i64 x])] [(false, [.bool (p x)])]) :
    Sat Try.prog 175 [aL xs, .fn sem] true (rB (xs.any p)) := by
  refine sat_walk (fn := Try.f175) rfl rfl rfl (Nat.le_of_ble_eq_true rfl) fun fr hP hN hbnd => ?_
  have hE : (envOf fr Try.prog).Ok := envOf_ok hP
  have hM := follows_of hP
  have hS : ∀ {draw ops}, statB Try.f175.ntmps draw ops = true → statB (envOf fr Try.prog).fr.N draw ops = true := fun h => by rw [envOf_fr, hN]; exact h
  repeat' (first
    | exact True.intro
    | refine ev_seq ?_
    | ((first | refine vgd_go ?_ | refine ev_region hE hM (hS (by decide +kernel)) ?_ | refine ev_if ?_ | refine end_ret hE rfl rfl ?_ | refine end_norm hE rfl rfl ?_ | refine vcall_A ?_ | refine vcallB_of hP (s_IndexFuncI _ _ p hp) ?_); simp (maxSteps := 2000000) only [go_sem, hP, ↓reduceIte, Nat.reduceAdd, Nat.reduceMul, Nat.reduceEqDiff, Nat.reduceSub, Nat.reduceLeDiff, reduceCtorEq])
    | refine ev_skip ?_ | refine ev_block ?_ | refine ev_blk ?_ | refine ev_ret ?_ | refine ev_exit ?_ | refine evx_code_ret ?_ | refine evx_blk_ret ?_ | refine evx_lp_ret ?_
    | refine evx_code_exit ?_ | refine evx_lp_exit ?_ | refine evx_blk_hit ?_ | refine evx_blk_pass (by decide) ?_
    | refine And.intro ?_ ?_ | intro _ | decide +kernel | omega)
  · split <;> simp_all <;> omega
theorem s_PointFault1 (a : Int) : Sat Try.prog 176 [aI a] true (rB (!inB a (-1000) 1000)) := by
  refine sat_walk (fn := Try.f176) rfl rfl rfl (Nat.le_of_ble_eq_true rfl) fun fr hP hN hbnd => ?_
  have hE : (envOf fr Try.prog).Ok := envOf_ok hP
  have hM := follows_of hP
  have hS : ∀ {draw ops}, statB Try.f176.ntmps draw ops = true → statB (envOf fr Try.prog).fr.N draw ops = true := fun h => by rw [envOf_fr, hN]; exact h
  repeat' (first
    | exact True.intro
    | refine ev_seq ?_
    | ((first | refine vgd_go ?_ | refine ev_region hE hM (hS (by decide +kernel)) ?_ | refine ev_if ?_ | refine end_ret hE rfl rfl ?_ | refine end_norm hE rfl rfl ?_ | refine vcall_A ?_ | refine vcallB_of hP (s_within _ _ _) ?_); simp (maxSteps := 2000000) only [go_sem, hP, ↓reduceIte, Nat.reduceAdd, Nat.reduceMul, Nat.reduceEqDiff, Nat.reduceSub, Nat.reduceLeDiff, reduceCtorEq])
    | refine ev_skip ?_ | refine ev_block ?_ | refine ev_blk ?_ | refine ev_ret ?_ | refine ev_exit ?_ | refine evx_code_ret ?_ | refine evx_blk_ret ?_ | refine evx_lp_ret ?_
    | refine evx_code_exit ?_ | refine evx_lp_exit ?_ | refine evx_blk_hit ?_ | refine evx_blk_pass (by decide) ?_
    | refine And.intro ?_ ?_ | intro _ | decide +kernel | omega)
theorem s_implPointFault (xs : List Int) (d : Int) : Sat Try.prog 149 [aL xs, aI d] true (rI (pf xs d)) := by
  refine sat_walk (fn := Try.f149) rfl rfl rfl (Nat.le_of_ble_eq_true rfl) fun fr hP hN hbnd => ?_
  have hE : (envOf fr Try.prog).Ok := envOf_ok hP
  have hM := follows_of hP
  have hS : ∀ {draw ops}, statB Try.f149.ntmps draw ops = true → statB (envOf fr Try.prog).fr.N draw ops = true := fun h => by rw [envOf_fr, hN]; exact h
  repeat' (first
    | exact True.intro
    | refine ev_seq ?_
    | ((first | refine vgd_go ?_ | refine ev_region hE hM (hS (by decide +kernel)) ?_ | refine ev_if ?_ | refine end_ret hE rfl rfl ?_ | refine end_norm hE rfl rfl ?_ | refine vcall_A ?_ | refine vcallB_of hP (s_isDims _) ?_ | refine vcallB_of hP (s_ContainsFuncI xs _ (fun x => !inB x (-1000) 1000) (fun x _ => s_PointFault1 x)) ?_); simp (maxSteps := 2000000) only [go_sem, hP, ↓reduceIte, Nat.reduceAdd, Nat.reduceMul, Nat.reduceEqDiff, Nat.reduceSub, Nat.reduceLeDiff, reduceCtorEq])
    | refine ev_skip ?_ | refine ev_block ?_ | refine ev_blk ?_ | refine ev_ret ?_ | refine ev_exit ?_ | refine evx_code_ret ?_ | refine evx_blk_ret ?_ | refine evx_lp_ret ?_
    | refine evx_code_exit ?_ | refine evx_lp_exit ?_ | refine evx_blk_hit ?_ | refine evx_blk_pass (by decide) ?_
    | refine And.intro ?_ ?_ | intro _ | decide +kernel | omega)
  all_goals simp_all [pf]
structure Rect where
  low : List Int
  high : List Int
  deriving DecidableEq, Inhabited
@[go_sem] abbrev cR (r : Rect) : List C := [sI r.low, sI r.high]
@[go_sem] abbrev oR (r : Rect) : List C := [oI r.low, oI r.high]
@[go_sem] abbrev aR (r : Rect) : Arg := .d (true, cR r)
@[go_sem] abbrev pR (r : Rect) : Arg := .pv (cR r)
@[go_sem] abbrev rR (r : Rect) : List Dat := [(true, oR r)]
theorem bndR {r : Rect} {gs : List Arg} (h : Args.bnd (aR r :: gs)) : r.low.length ≤ maxLen ∧ r.high.length ≤ maxLen := by
  have h1 := h.1.1.1; have h2 := h.1.2.1.1
  rw [List.length_map] at h1 h2; exact ⟨h1, h2⟩
theorem bndPR {r : Rect} {gs : List Arg} (h : Args.bnd (pR r :: gs)) : r.low.length ≤ maxLen ∧ r.high.length ≤ maxLen := by
  have h1 := h.1.1.1; have h2 := h.1.2.1.1
  rw [List.length_map] at h1 h2; exact ⟨h1, h2⟩
theorem eqR (a b : Rect) : a = b ↔ a.low = b.low ∧ a.high = b.high := by cases a; cases b; simp
def wR (r : Rect) : Nat := r.low.length + r.high.length
theorem s_szRect (r : Rect) (left : Int) (h0 : 0 ≤ left) (h1 : left ≤ 1048576) : Sat Try.prog 15 [aR r, aI left] true (rI (lessN (wR r) left)) := by
  refine sat_walk (fn := Try.f15) rfl rfl rfl (Nat.le_of_ble_eq_true rfl) fun fr hP hN hbnd => ?_
  have hE : (envOf fr Try.prog).Ok := envOf_ok hP
  have hM := follows_of hP
  have hS : ∀ {draw ops}, statB Try.f15.ntmps draw ops = true → statB (envOf fr Try.prog).fr.N draw ops = true := fun h => by rw [envOf_fr, hN]; exact h
  have hl := bndR hbnd
  repeat' (first
    | exact True.intro
    | refine ev_seq ?_
    | ((first | refine vgd_go ?_ | refine ev_region hE hM (hS (by decide +kernel)) ?_ | refine ev_if ?_ | refine end_ret hE rfl rfl ?_ | refine end_norm hE rfl rfl ?_ | refine vcall_A ?_ | refine vcallB_of hP (s_szInt64S _ _ h0 h1) ?_ | refine vcallB_of hP (s_szInt64S _ _ (by simp only [lessN] at *; omega) (by simp only [lessN] at *; omega)) ?_); simp (maxSteps := 2000000) only [go_sem, hP, ↓reduceIte, Nat.reduceAdd, Nat.reduceMul, Nat.reduceEqDiff, Nat.reduceSub, Nat.reduceLeDiff, reduceCtorEq])
    | refine ev_skip ?_ | refine ev_block ?_ | refine ev_blk ?_ | refine ev_ret ?_ | refine ev_exit ?_ | refine evx_code_ret ?_ | refine evx_blk_ret ?_ | refine evx_lp_ret ?_
    | refine evx_code_exit ?_ | refine evx_lp_exit ?_ | refine evx_blk_hit ?_ | refine evx_blk_pass (by decide) ?_
    | refine And.intro ?_ ?_ | intro _ | decide +kernel | omega)
  all_goals simp_all only [lessN, wR]
  all_goals omega
theorem s_toRect (r : Rect) (h : wR r ≤ 1048576) : Sat Try.prog 17 [aR r] true (rR r) := by
  refine sat_walk (fn := Try.f17) rfl rfl rfl (Nat.le_of_ble_eq_true rfl) fun fr hP hN hbnd => ?_
  have hE : (envOf fr Try.prog).Ok := envOf_ok hP
  have hM := follows_of hP
  have hS : ∀ {draw ops}, statB Try.f17.ntmps draw ops = true → statB (envOf fr Try.prog).fr.N draw ops = true := fun h => by rw [envOf_fr, hN]; exact h
  have hw : r.low.length ≤ 1048576 ∧ r.high.length ≤ 1048576 := by simp only [wR] at h; omega
  repeat' (first
    | exact True.intro
    | refine ev_seq ?_
    | ((first | refine vgd_go ?_ | refine ev_region hE hM (hS (by decide +kernel)) ?_ | refine ev_if ?_ | refine end_ret hE rfl rfl ?_ | refine end_norm hE rfl rfl ?_ | refine vcall_A ?_ | refine vcallB_of hP (s_toInt64S _ hw.1) ?_ | refine vcallB_of hP (s_toInt64S _ hw.2) ?_); simp (maxSteps := 2000000) only [go_sem, hP, ↓reduceIte, Nat.reduceAdd, Nat.reduceMul, Nat.reduceEqDiff, Nat.reduceSub, Nat.reduceLeDiff, reduceCtorEq])
    | refine ev_skip ?_ | refine ev_block ?_ | refine ev_blk ?_ | refine ev_ret ?_ | refine ev_exit ?_ | refine evx_code_ret ?_ | refine evx_blk_ret ?_ | refine evx_lp_ret ?_
    | refine evx_code_exit ?_ | refine evx_lp_exit ?_ | refine evx_blk_hit ?_ | refine evx_blk_pass (by decide) ?_
    | refine And.intro ?_ ?_ | intro _ | decide +kernel | omega)
end Go.Proofs.Ytcnodghbkoeohaa.W
