/- Contracts of functions that the statements of this seat reach: what each returns; it writes to nothing of old. No condition but those that each theorem states. -/
import Derived.Test.YtmpndkhnajogkaaRows
import Derived.Test.YtmpndkhnajogkaaVg
open Go Go.Vm Go.Proofs Go.IntWalk Go.RowKit
set_option maxRecDepth 100000
set_option maxHeartbeats 4000000
set_option linter.unusedSimpArgs false
set_option linter.unusedVariables false
set_option linter.unusedSectionVars false
namespace Go.Proofs.Ytmpndkhnajogkaa.W
attribute [local irreducible] kJ ev evx vops vstep vgo vgd vget vcall vcallFn vcallA vcallB vts vres vcond vbin
@[go_sem] theorem ty2 : tyI Try.prog 2 = some { size := 1, bytes := 8, zv := Value.int IntKind.i64 (Int.ofNat 0), kind := TK.int IntKind.i64, cts := [(0, 0)], scal := true, psz := 0, zts := [T.c (C.int IntKind.i64 (Int.ofNat 0))] } := by rfl
@[go_sem] theorem ty3 : tyI Try.prog 3 = some { size := 1, bytes := 8, zv := Value.int IntKind.i64 (Int.ofNat 0), kind := TK.int IntKind.i64, cts := [(0, 0)], scal := true, psz := 0, zts := [T.c (C.int IntKind.i64 (Int.ofNat 0))] } := by rfl
@[go_sem] theorem ty4 : tyI Try.prog 4 = some { size := 1, bytes := 1, zv := Value.bool false, kind := TK.bool, cts := [(0, 0)], scal := true, psz := 0, zts := [T.c (C.bool false)] } := by rfl
@[go_sem] theorem ty5 : tyI Try.prog 5 = some { size := 1, bytes := 1, zv := Value.int IntKind.u8 (Int.ofNat 0), kind := TK.int IntKind.u8, cts := [(0, 0)], scal := true, psz := 0, zts := [T.c (C.int IntKind.u8 (Int.ofNat 0))] } := by rfl
@[go_sem] theorem ty12 : tyI Try.prog 12 = some { size := 1, bytes := 8, zv := Value.int IntKind.u64 (Int.ofNat 0), kind := TK.int IntKind.u64, cts := [(0, 0)], scal := true, psz := 0, zts := [T.c (C.int IntKind.u64 (Int.ofNat 0))] } := by rfl
@[go_sem] theorem ty21 : tyI Try.prog 21 = some { size := 1, bytes := 4, zv := Value.int IntKind.i32 (Int.ofNat 0), kind := TK.int IntKind.i32, cts := [(0, 0)], scal := true, psz := 0, zts := [T.c (C.int IntKind.i32 (Int.ofNat 0))] } := by rfl
@[go_sem] theorem ty22 : tyI Try.prog 22 = some { size := 1, bytes := 24, zv := Value.slice none 0 0, kind := TK.slice 2, cts := [(2, 1)], scal := false, psz := 0, zts := [T.nilS] } := by rfl
@[go_sem] theorem ty23 : tyI Try.prog 23 = some { size := 2, bytes := 48, zv := Value.agg { toList := [Value.slice none 0 0, Value.slice none 0 0] }, kind := TK.struct [(0, 22), (1, 22)], cts := [(2, 1), (2, 1)], scal := false, psz := 0, zts := [T.nilS, T.nilS] } := by rfl
@[go_sem] theorem ty24 : tyI Try.prog 24 = some { size := 2, bytes := 48, zv := Value.agg { toList := [Value.slice none 0 0, Value.slice none 0 0] }, kind := TK.struct [(0, 22), (1, 22)], cts := [(2, 1), (2, 1)], scal := false, psz := 0, zts := [T.nilS, T.nilS] } := by rfl
@[go_sem] theorem ty25 : tyI Try.prog 25 = some { size := 5, bytes := 88, zv := Value.agg { toList := [Value.int IntKind.i64 (Int.ofNat 0), Value.slice none 0 0, Value.slice none 0 0, Value.slice none 0 0, Value.int IntKind.i64 (Int.ofNat 0)] }, kind := TK.struct [(0, 2), (1, 24), (3, 22), (4, 2)], cts := [(0, 0), (2, 1), (2, 1), (2, 1), (0, 0)], scal := false, psz := 0, zts := [T.c (C.int IntKind.i64 (Int.ofNat 0)), T.nilS, T.nilS, T.nilS, T.c (C.int IntKind.i64 (Int.ofNat 0))] } := by rfl
@[go_sem] theorem ty26 : tyI Try.prog 26 = some { size := 5, bytes := 88, zv := Value.agg { toList := [Value.int IntKind.i64 (Int.ofNat 0), Value.slice none 0 0, Value.slice none 0 0, Value.slice none 0 0, Value.int IntKind.i64 (Int.ofNat 0)] }, kind := TK.struct [(0, 2), (1, 24), (3, 22), (4, 2)], cts := [(0, 0), (2, 1), (2, 1), (2, 1), (0, 0)], scal := false, psz := 0, zts := [T.c (C.int IntKind.i64 (Int.ofNat 0)), T.nilS, T.nilS, T.nilS, T.c (C.int IntKind.i64 (Int.ofNat 0))] } := by rfl
@[go_sem] theorem ty27 : tyI Try.prog 27 = some { size := 1, bytes := 24, zv := Value.slice none 0 0, kind := TK.slice 220, cts := [(220, 3)], scal := false, psz := 0, zts := [T.nilS] } := by rfl
@[go_sem] theorem ty28 : tyI Try.prog 28 = some { size := 1, bytes := 24, zv := Value.slice none 0 0, kind := TK.slice 212, cts := [(212, 3)], scal := false, psz := 0, zts := [T.nilS] } := by rfl
@[go_sem] theorem ty29 : tyI Try.prog 29 = some { size := 7, bytes := 136, zv := Value.agg { toList := [Value.int IntKind.i64 (Int.ofNat 0), Value.slice none 0 0, Value.slice none 0 0, Value.slice none 0 0, Value.int IntKind.i64 (Int.ofNat 0), Value.slice none 0 0, Value.slice none 0 0] }, kind := TK.struct [(0, 26), (5, 27), (6, 28)], cts := [(0, 0), (2, 1), (2, 1), (2, 1), (0, 0), (220, 3), (212, 3)], scal := false, psz := 0, zts := [T.c (C.int IntKind.i64 (Int.ofNat 0)), T.nilS, T.nilS, T.nilS, T.c (C.int IntKind.i64 (Int.ofNat 0)), T.nilS, T.nilS] } := by rfl
@[go_sem] theorem ty30 : tyI Try.prog 30 = some { size := 7, bytes := 136, zv := Value.agg { toList := [Value.int IntKind.i64 (Int.ofNat 0), Value.slice none 0 0, Value.slice none 0 0, Value.slice none 0 0, Value.int IntKind.i64 (Int.ofNat 0), Value.slice none 0 0, Value.slice none 0 0] }, kind := TK.struct [(0, 26), (5, 27), (6, 28)], cts := [(0, 0), (2, 1), (2, 1), (2, 1), (0, 0), (220, 3), (212, 3)], scal := false, psz := 0, zts := [T.c (C.int IntKind.i64 (Int.ofNat 0)), T.nilS, T.nilS, T.nilS, T.c (C.int IntKind.i64 (Int.ofNat 0)), T.nilS, T.nilS] } := by rfl
@[go_sem] theorem ty33 : tyI Try.prog 33 = some { size := 2, bytes := 48, zv := Value.agg { toList := [Value.slice none 0 0, Value.slice none 0 0] }, kind := TK.struct [(0, 22), (1, 22)], cts := [(2, 1), (2, 1)], scal := false, psz := 0, zts := [T.nilS, T.nilS] } := by rfl
@[go_sem] theorem ty34 : tyI Try.prog 34 = some { size := 5, bytes := 88, zv := Value.agg { toList := [Value.int IntKind.i64 (Int.ofNat 0), Value.slice none 0 0, Value.slice none 0 0, Value.slice none 0 0, Value.int IntKind.i64 (Int.ofNat 0)] }, kind := TK.struct [(0, 2), (1, 33), (3, 22), (4, 2)], cts := [(0, 0), (2, 1), (2, 1), (2, 1), (0, 0)], scal := false, psz := 0, zts := [T.c (C.int IntKind.i64 (Int.ofNat 0)), T.nilS, T.nilS, T.nilS, T.c (C.int IntKind.i64 (Int.ofNat 0))] } := by rfl
@[go_sem] theorem ty35 : tyI Try.prog 35 = some { size := 5, bytes := 88, zv := Value.agg { toList := [Value.int IntKind.i64 (Int.ofNat 0), Value.slice none 0 0, Value.slice none 0 0, Value.slice none 0 0, Value.int IntKind.i64 (Int.ofNat 0)] }, kind := TK.struct [(0, 2), (1, 33), (3, 22), (4, 2)], cts := [(0, 0), (2, 1), (2, 1), (2, 1), (0, 0)], scal := false, psz := 0, zts := [T.c (C.int IntKind.i64 (Int.ofNat 0)), T.nilS, T.nilS, T.nilS, T.c (C.int IntKind.i64 (Int.ofNat 0))] } := by rfl
@[go_sem] theorem ty36 : tyI Try.prog 36 = some { size := 1, bytes := 24, zv := Value.slice none 0 0, kind := TK.slice 215, cts := [(215, 3)], scal := false, psz := 0, zts := [T.nilS] } := by rfl
@[go_sem] theorem ty37 : tyI Try.prog 37 = some { size := 1, bytes := 24, zv := Value.slice none 0 0, kind := TK.slice 105, cts := [(105, 3)], scal := false, psz := 0, zts := [T.nilS] } := by rfl
@[go_sem] theorem ty38 : tyI Try.prog 38 = some { size := 7, bytes := 136, zv := Value.agg { toList := [Value.int IntKind.i64 (Int.ofNat 0), Value.slice none 0 0, Value.slice none 0 0, Value.slice none 0 0, Value.int IntKind.i64 (Int.ofNat 0), Value.slice none 0 0, Value.slice none 0 0] }, kind := TK.struct [(0, 35), (5, 36), (6, 37)], cts := [(0, 0), (2, 1), (2, 1), (2, 1), (0, 0), (215, 3), (105, 3)], scal := false, psz := 0, zts := [T.c (C.int IntKind.i64 (Int.ofNat 0)), T.nilS, T.nilS, T.nilS, T.c (C.int IntKind.i64 (Int.ofNat 0)), T.nilS, T.nilS] } := by rfl
@[go_sem] theorem ty39 : tyI Try.prog 39 = some { size := 7, bytes := 136, zv := Value.agg { toList := [Value.int IntKind.i64 (Int.ofNat 0), Value.slice none 0 0, Value.slice none 0 0, Value.slice none 0 0, Value.int IntKind.i64 (Int.ofNat 0), Value.slice none 0 0, Value.slice none 0 0] }, kind := TK.struct [(0, 35), (5, 36), (6, 37)], cts := [(0, 0), (2, 1), (2, 1), (2, 1), (0, 0), (215, 3), (105, 3)], scal := false, psz := 0, zts := [T.c (C.int IntKind.i64 (Int.ofNat 0)), T.nilS, T.nilS, T.nilS, T.c (C.int IntKind.i64 (Int.ofNat 0)), T.nilS, T.nilS] } := by rfl
@[go_sem] theorem ty43 : tyI Try.prog 43 = some { size := 1, bytes := 24, zv := Value.slice none 0 0, kind := TK.slice 130, cts := [(130, 4)], scal := false, psz := 0, zts := [T.nilS] } := by rfl
@[go_sem] theorem ty45 : tyI Try.prog 45 = some { size := 2, bytes := 16, zv := Value.agg { toList := [Value.int IntKind.i64 (Int.ofNat 0), Value.int IntKind.i64 (Int.ofNat 0)] }, kind := TK.struct [(0, 2), (1, 2)], cts := [(0, 0), (0, 0)], scal := true, psz := 0, zts := [T.c (C.int IntKind.i64 (Int.ofNat 0)), T.c (C.int IntKind.i64 (Int.ofNat 0))] } := by rfl
@[go_sem] theorem ty46 : tyI Try.prog 46 = some { size := 2, bytes := 16, zv := Value.agg { toList := [Value.int IntKind.i64 (Int.ofNat 0), Value.int IntKind.i64 (Int.ofNat 0)] }, kind := TK.struct [(0, 2), (1, 2)], cts := [(0, 0), (0, 0)], scal := true, psz := 0, zts := [T.c (C.int IntKind.i64 (Int.ofNat 0)), T.c (C.int IntKind.i64 (Int.ofNat 0))] } := by rfl
@[go_sem] theorem ty48 : tyI Try.prog 48 = some { size := 1, bytes := 24, zv := Value.slice none 0 0, kind := TK.slice 85, cts := [(85, 4)], scal := false, psz := 0, zts := [T.nilS] } := by rfl
@[go_sem] theorem ty53 : tyI Try.prog 53 = some { size := 2, bytes := 32, zv := Value.agg { toList := [Value.int IntKind.i64 (Int.ofNat 0), Value.slice none 0 0] }, kind := TK.struct [(0, 2), (1, 48)], cts := [(0, 0), (85, 4)], scal := false, psz := 0, zts := [T.c (C.int IntKind.i64 (Int.ofNat 0)), T.nilS] } := by rfl
@[go_sem] theorem ty54 : tyI Try.prog 54 = some { size := 2, bytes := 32, zv := Value.agg { toList := [Value.int IntKind.i64 (Int.ofNat 0), Value.slice none 0 0] }, kind := TK.struct [(0, 2), (1, 48)], cts := [(0, 0), (85, 4)], scal := false, psz := 0, zts := [T.c (C.int IntKind.i64 (Int.ofNat 0)), T.nilS] } := by rfl
@[go_sem] theorem ty60 : tyI Try.prog 60 = some { size := 3, bytes := 56, zv := Value.agg { toList := [Value.int IntKind.i64 (Int.ofNat 0), Value.slice none 0 0, Value.slice none 0 0] }, kind := TK.struct [(0, 2), (1, 48), (2, 48)], cts := [(0, 0), (85, 4), (85, 4)], scal := false, psz := 0, zts := [T.c (C.int IntKind.i64 (Int.ofNat 0)), T.nilS, T.nilS] } := by rfl
@[go_sem] theorem ty61 : tyI Try.prog 61 = some { size := 3, bytes := 56, zv := Value.agg { toList := [Value.int IntKind.i64 (Int.ofNat 0), Value.slice none 0 0, Value.slice none 0 0] }, kind := TK.struct [(0, 2), (1, 48), (2, 48)], cts := [(0, 0), (85, 4), (85, 4)], scal := false, psz := 0, zts := [T.c (C.int IntKind.i64 (Int.ofNat 0)), T.nilS, T.nilS] } := by rfl
@[go_sem] theorem ty65 : tyI Try.prog 65 = some { size := 1, bytes := 24, zv := Value.slice none 0 0, kind := TK.slice 5, cts := [(5, 1)], scal := false, psz := 0, zts := [T.nilS] } := by rfl
@[go_sem] theorem ty74 : tyI Try.prog 74 = some { size := 3, bytes := 56, zv := Value.agg { toList := [Value.int IntKind.i64 (Int.ofNat 0), Value.slice none 0 0, Value.slice none 0 0] }, kind := TK.struct [(0, 2), (1, 33)], cts := [(0, 0), (2, 1), (2, 1)], scal := false, psz := 0, zts := [T.c (C.int IntKind.i64 (Int.ofNat 0)), T.nilS, T.nilS] } := by rfl
@[go_sem] theorem ty75 : tyI Try.prog 75 = some { size := 3, bytes := 56, zv := Value.agg { toList := [Value.int IntKind.i64 (Int.ofNat 0), Value.slice none 0 0, Value.slice none 0 0] }, kind := TK.struct [(0, 2), (1, 33)], cts := [(0, 0), (2, 1), (2, 1)], scal := false, psz := 0, zts := [T.c (C.int IntKind.i64 (Int.ofNat 0)), T.nilS, T.nilS] } := by rfl
@[go_sem] theorem ty84 : tyI Try.prog 84 = some { size := 4, bytes := 64, zv := Value.agg { toList := [Value.slice none 0 0, Value.slice none 0 0, Value.int IntKind.i64 (Int.ofNat 0), Value.int IntKind.i64 (Int.ofNat 0)] }, kind := TK.struct [(0, 33), (2, 2), (3, 2)], cts := [(2, 1), (2, 1), (0, 0), (0, 0)], scal := false, psz := 0, zts := [T.nilS, T.nilS, T.c (C.int IntKind.i64 (Int.ofNat 0)), T.c (C.int IntKind.i64 (Int.ofNat 0))] } := by rfl
@[go_sem] theorem ty85 : tyI Try.prog 85 = some { size := 4, bytes := 64, zv := Value.agg { toList := [Value.slice none 0 0, Value.slice none 0 0, Value.int IntKind.i64 (Int.ofNat 0), Value.int IntKind.i64 (Int.ofNat 0)] }, kind := TK.struct [(0, 33), (2, 2), (3, 2)], cts := [(2, 1), (2, 1), (0, 0), (0, 0)], scal := false, psz := 0, zts := [T.nilS, T.nilS, T.c (C.int IntKind.i64 (Int.ofNat 0)), T.c (C.int IntKind.i64 (Int.ofNat 0))] } := by rfl
@[go_sem] theorem ty86 : tyI Try.prog 86 = some { size := 4, bytes := 48, zv := Value.agg { toList := [Value.int IntKind.i64 (Int.ofNat 0), Value.int IntKind.i64 (Int.ofNat 0), Value.int IntKind.i64 (Int.ofNat 0), Value.slice none 0 0] }, kind := TK.struct [(0, 2), (1, 2), (2, 2), (3, 48)], cts := [(0, 0), (0, 0), (0, 0), (85, 4)], scal := false, psz := 0, zts := [T.c (C.int IntKind.i64 (Int.ofNat 0)), T.c (C.int IntKind.i64 (Int.ofNat 0)), T.c (C.int IntKind.i64 (Int.ofNat 0)), T.nilS] } := by rfl
@[go_sem] theorem ty87 : tyI Try.prog 87 = some { size := 4, bytes := 48, zv := Value.agg { toList := [Value.int IntKind.i64 (Int.ofNat 0), Value.int IntKind.i64 (Int.ofNat 0), Value.int IntKind.i64 (Int.ofNat 0), Value.slice none 0 0] }, kind := TK.struct [(0, 2), (1, 2), (2, 2), (3, 48)], cts := [(0, 0), (0, 0), (0, 0), (85, 4)], scal := false, psz := 0, zts := [T.c (C.int IntKind.i64 (Int.ofNat 0)), T.c (C.int IntKind.i64 (Int.ofNat 0)), T.c (C.int IntKind.i64 (Int.ofNat 0)), T.nilS] } := by rfl
@[go_sem] theorem ty90 : tyI Try.prog 90 = some { size := 5, bytes := 56, zv := Value.agg { toList := [Value.int IntKind.i64 (Int.ofNat 0), Value.int IntKind.i64 (Int.ofNat 0), Value.int IntKind.i64 (Int.ofNat 0), Value.int IntKind.i64 (Int.ofNat 0), Value.slice none 0 0] }, kind := TK.struct [(0, 2), (1, 87)], cts := [(0, 0), (0, 0), (0, 0), (0, 0), (85, 4)], scal := false, psz := 0, zts := [T.c (C.int IntKind.i64 (Int.ofNat 0)), T.c (C.int IntKind.i64 (Int.ofNat 0)), T.c (C.int IntKind.i64 (Int.ofNat 0)), T.c (C.int IntKind.i64 (Int.ofNat 0)), T.nilS] } := by rfl
@[go_sem] theorem ty91 : tyI Try.prog 91 = some { size := 5, bytes := 56, zv := Value.agg { toList := [Value.int IntKind.i64 (Int.ofNat 0), Value.int IntKind.i64 (Int.ofNat 0), Value.int IntKind.i64 (Int.ofNat 0), Value.int IntKind.i64 (Int.ofNat 0), Value.slice none 0 0] }, kind := TK.struct [(0, 2), (1, 87)], cts := [(0, 0), (0, 0), (0, 0), (0, 0), (85, 4)], scal := false, psz := 0, zts := [T.c (C.int IntKind.i64 (Int.ofNat 0)), T.c (C.int IntKind.i64 (Int.ofNat 0)), T.c (C.int IntKind.i64 (Int.ofNat 0)), T.c (C.int IntKind.i64 (Int.ofNat 0)), T.nilS] } := by rfl
@[go_sem] theorem ty103 : tyI Try.prog 103 = some { size := 1, bytes := 24, zv := Value.slice none 0 0, kind := TK.slice 87, cts := [(87, 4)], scal := false, psz := 0, zts := [T.nilS] } := by rfl
@[go_sem] theorem ty104 : tyI Try.prog 104 = some { size := 3, bytes := 56, zv := Value.agg { toList := [Value.int IntKind.i64 (Int.ofNat 0), Value.slice none 0 0, Value.slice none 0 0] }, kind := TK.struct [(0, 2), (1, 33)], cts := [(0, 0), (2, 1), (2, 1)], scal := false, psz := 0, zts := [T.c (C.int IntKind.i64 (Int.ofNat 0)), T.nilS, T.nilS] } := by rfl
@[go_sem] theorem ty105 : tyI Try.prog 105 = some { size := 3, bytes := 56, zv := Value.agg { toList := [Value.int IntKind.i64 (Int.ofNat 0), Value.slice none 0 0, Value.slice none 0 0] }, kind := TK.struct [(0, 2), (1, 33)], cts := [(0, 0), (2, 1), (2, 1)], scal := false, psz := 0, zts := [T.c (C.int IntKind.i64 (Int.ofNat 0)), T.nilS, T.nilS] } := by rfl
@[go_sem] theorem ty108 : tyI Try.prog 108 = some { size := 2, bytes := 32, zv := Value.agg { toList := [Value.int IntKind.i64 (Int.ofNat 0), Value.slice none 0 0] }, kind := TK.struct [(0, 2), (1, 37)], cts := [(0, 0), (105, 3)], scal := false, psz := 0, zts := [T.c (C.int IntKind.i64 (Int.ofNat 0)), T.nilS] } := by rfl
@[go_sem] theorem ty109 : tyI Try.prog 109 = some { size := 2, bytes := 32, zv := Value.agg { toList := [Value.int IntKind.i64 (Int.ofNat 0), Value.slice none 0 0] }, kind := TK.struct [(0, 2), (1, 37)], cts := [(0, 0), (105, 3)], scal := false, psz := 0, zts := [T.c (C.int IntKind.i64 (Int.ofNat 0)), T.nilS] } := by rfl
@[go_sem] theorem ty112 : tyI Try.prog 112 = some { size := 4, bytes := 64, zv := Value.agg { toList := [Value.int IntKind.i64 (Int.ofNat 0), Value.int IntKind.i64 (Int.ofNat 0), Value.slice none 0 0, Value.slice none 0 0] }, kind := TK.struct [(0, 2), (1, 105)], cts := [(0, 0), (0, 0), (2, 1), (2, 1)], scal := false, psz := 0, zts := [T.c (C.int IntKind.i64 (Int.ofNat 0)), T.c (C.int IntKind.i64 (Int.ofNat 0)), T.nilS, T.nilS] } := by rfl
@[go_sem] theorem ty113 : tyI Try.prog 113 = some { size := 4, bytes := 64, zv := Value.agg { toList := [Value.int IntKind.i64 (Int.ofNat 0), Value.int IntKind.i64 (Int.ofNat 0), Value.slice none 0 0, Value.slice none 0 0] }, kind := TK.struct [(0, 2), (1, 105)], cts := [(0, 0), (0, 0), (2, 1), (2, 1)], scal := false, psz := 0, zts := [T.c (C.int IntKind.i64 (Int.ofNat 0)), T.c (C.int IntKind.i64 (Int.ofNat 0)), T.nilS, T.nilS] } := by rfl
@[go_sem] theorem ty121 : tyI Try.prog 121 = some { size := 1, bytes := 8, zv := Value.pointer none, kind := TK.other, cts := [(0, 0), (2, 1), (2, 1), (2, 1), (0, 0), (215, 3), (105, 3)], scal := false, psz := 7, zts := [T.un] } := by rfl
@[go_sem] theorem ty129 : tyI Try.prog 129 = some { size := 4, bytes := 64, zv := Value.agg { toList := [Value.slice none 0 0, Value.slice none 0 0, Value.int IntKind.i64 (Int.ofNat 0), Value.int IntKind.i64 (Int.ofNat 0)] }, kind := TK.struct [(0, 24), (2, 2), (3, 2)], cts := [(2, 1), (2, 1), (0, 0), (0, 0)], scal := false, psz := 0, zts := [T.nilS, T.nilS, T.c (C.int IntKind.i64 (Int.ofNat 0)), T.c (C.int IntKind.i64 (Int.ofNat 0))] } := by rfl
@[go_sem] theorem ty130 : tyI Try.prog 130 = some { size := 4, bytes := 64, zv := Value.agg { toList := [Value.slice none 0 0, Value.slice none 0 0, Value.int IntKind.i64 (Int.ofNat 0), Value.int IntKind.i64 (Int.ofNat 0)] }, kind := TK.struct [(0, 24), (2, 2), (3, 2)], cts := [(2, 1), (2, 1), (0, 0), (0, 0)], scal := false, psz := 0, zts := [T.nilS, T.nilS, T.c (C.int IntKind.i64 (Int.ofNat 0)), T.c (C.int IntKind.i64 (Int.ofNat 0))] } := by rfl
@[go_sem] theorem ty145 : tyI Try.prog 145 = some { size := 1, bytes := 8, zv := Value.pointer none, kind := TK.other, cts := [(5, 1), (0, 0)], scal := false, psz := 2, zts := [T.un] } := by rfl
@[go_sem] theorem ty154 : tyI Try.prog 154 = some { size := 1, bytes := 8, zv := Value.pointer none, kind := TK.other, cts := [(2, 1), (2, 1)], scal := false, psz := 2, zts := [T.un] } := by rfl
@[go_sem] theorem ty176 : tyI Try.prog 176 = some { size := 1, bytes := 8, zv := Value.pointer none, kind := TK.other, cts := [(2, 1), (2, 1), (0, 0), (0, 0)], scal := false, psz := 4, zts := [T.un] } := by rfl
@[go_sem] theorem ty180 : tyI Try.prog 180 = some { size := 1, bytes := 8, zv := Value.pointer none, kind := TK.other, cts := [(0, 0), (0, 0), (0, 0), (85, 4)], scal := false, psz := 4, zts := [T.un] } := by rfl
@[go_sem] theorem ty202 : tyI Try.prog 202 = some { size := 1, bytes := 8, zv := Value.pointer none, kind := TK.other, cts := [(0, 0), (2, 1), (2, 1)], scal := false, psz := 3, zts := [T.un] } := by rfl
@[go_sem] theorem ty211 : tyI Try.prog 211 = some { size := 3, bytes := 56, zv := Value.agg { toList := [Value.int IntKind.i64 (Int.ofNat 0), Value.slice none 0 0, Value.slice none 0 0] }, kind := TK.struct [(0, 2), (1, 24)], cts := [(0, 0), (2, 1), (2, 1)], scal := false, psz := 0, zts := [T.c (C.int IntKind.i64 (Int.ofNat 0)), T.nilS, T.nilS] } := by rfl
@[go_sem] theorem ty212 : tyI Try.prog 212 = some { size := 3, bytes := 56, zv := Value.agg { toList := [Value.int IntKind.i64 (Int.ofNat 0), Value.slice none 0 0, Value.slice none 0 0] }, kind := TK.struct [(0, 2), (1, 24)], cts := [(0, 0), (2, 1), (2, 1)], scal := false, psz := 0, zts := [T.c (C.int IntKind.i64 (Int.ofNat 0)), T.nilS, T.nilS] } := by rfl
@[go_sem] theorem ty214 : tyI Try.prog 214 = some { size := 3, bytes := 24, zv := Value.agg { toList := [Value.int IntKind.i64 (Int.ofNat 0), Value.int IntKind.i64 (Int.ofNat 0), Value.int IntKind.i64 (Int.ofNat 0)] }, kind := TK.struct [(0, 2), (1, 2), (2, 2)], cts := [(0, 0), (0, 0), (0, 0)], scal := true, psz := 0, zts := [T.c (C.int IntKind.i64 (Int.ofNat 0)), T.c (C.int IntKind.i64 (Int.ofNat 0)), T.c (C.int IntKind.i64 (Int.ofNat 0))] } := by rfl
@[go_sem] theorem ty215 : tyI Try.prog 215 = some { size := 3, bytes := 24, zv := Value.agg { toList := [Value.int IntKind.i64 (Int.ofNat 0), Value.int IntKind.i64 (Int.ofNat 0), Value.int IntKind.i64 (Int.ofNat 0)] }, kind := TK.struct [(0, 2), (1, 2), (2, 2)], cts := [(0, 0), (0, 0), (0, 0)], scal := true, psz := 0, zts := [T.c (C.int IntKind.i64 (Int.ofNat 0)), T.c (C.int IntKind.i64 (Int.ofNat 0)), T.c (C.int IntKind.i64 (Int.ofNat 0))] } := by rfl
@[go_sem] theorem ty220 : tyI Try.prog 220 = some { size := 3, bytes := 24, zv := Value.agg { toList := [Value.int IntKind.i64 (Int.ofNat 0), Value.int IntKind.i64 (Int.ofNat 0), Value.int IntKind.i64 (Int.ofNat 0)] }, kind := TK.struct [(0, 2), (1, 2), (2, 2)], cts := [(0, 0), (0, 0), (0, 0)], scal := true, psz := 0, zts := [T.c (C.int IntKind.i64 (Int.ofNat 0)), T.c (C.int IntKind.i64 (Int.ofNat 0)), T.c (C.int IntKind.i64 (Int.ofNat 0))] } := by rfl
@[go_sem] theorem ty230 : tyI Try.prog 230 = some { size := 1, bytes := 24, zv := Value.slice none 0 0, kind := TK.slice 3, cts := [(3, 1)], scal := false, psz := 0, zts := [T.nilS] } := by rfl
@[go_sem] theorem ty235 : tyI Try.prog 235 = some { size := 1, bytes := 8, zv := Value.pointer none, kind := TK.other, cts := [(85, 4), (3, 1)], scal := false, psz := 2, zts := [T.un] } := by rfl
@[go_sem] theorem ty236 : tyI Try.prog 236 = some { size := 2, bytes := 48, zv := Value.agg { toList := [Value.slice none 0 0, Value.slice none 0 0] }, kind := TK.struct [(0, 48), (1, 230)], cts := [(85, 4), (3, 1)], scal := false, psz := 0, zts := [T.nilS, T.nilS] } := by rfl
@[go_sem] theorem ty237 : tyI Try.prog 237 = some { size := 2, bytes := 48, zv := Value.agg { toList := [Value.slice none 0 0, Value.slice none 0 0] }, kind := TK.struct [(0, 48), (1, 230)], cts := [(85, 4), (3, 1)], scal := false, psz := 0, zts := [T.nilS, T.nilS] } := by rfl
@[go_sem] theorem ty241 : tyI Try.prog 241 = some { size := 2, bytes := 32, zv := Value.agg { toList := [Value.slice none 0 0, Value.int IntKind.i64 (Int.ofNat 0)] }, kind := TK.struct [(0, 65), (1, 2)], cts := [(5, 1), (0, 0)], scal := false, psz := 0, zts := [T.nilS, T.c (C.int IntKind.i64 (Int.ofNat 0))] } := by rfl
@[go_sem] theorem ty242 : tyI Try.prog 242 = some { size := 2, bytes := 32, zv := Value.agg { toList := [Value.slice none 0 0, Value.int IntKind.i64 (Int.ofNat 0)] }, kind := TK.struct [(0, 65), (1, 2)], cts := [(5, 1), (0, 0)], scal := false, psz := 0, zts := [T.nilS, T.c (C.int IntKind.i64 (Int.ofNat 0))] } := by rfl
@[go_sem] theorem ty264 : tyI Try.prog 264 = some { size := 1, bytes := 8, zv := Value.int IntKind.u64 (Int.ofNat 0), kind := TK.int IntKind.u64, cts := [(0, 0)], scal := true, psz := 0, zts := [T.c (C.int IntKind.u64 (Int.ofNat 0))] } := by rfl
@[go_sem] theorem ty269 : tyI Try.prog 269 = some { size := 1, bytes := 8, zv := Value.int IntKind.i64 (Int.ofNat 0), kind := TK.int IntKind.i64, cts := [(0, 0)], scal := true, psz := 0, zts := [T.c (C.int IntKind.i64 (Int.ofNat 0))] } := by rfl
@[go_sem] theorem ty277 : tyI Try.prog 277 = some { size := 1, bytes := 4, zv := Value.int IntKind.u32 (Int.ofNat 0), kind := TK.int IntKind.u32, cts := [(0, 0)], scal := true, psz := 0, zts := [T.c (C.int IntKind.u32 (Int.ofNat 0))] } := by rfl
@[go_sem] theorem ty279 : tyI Try.prog 279 = some { size := 1, bytes := 8, zv := Value.int IntKind.u64 (Int.ofNat 0), kind := TK.int IntKind.u64, cts := [(0, 0)], scal := true, psz := 0, zts := [T.c (C.int IntKind.u64 (Int.ofNat 0))] } := by rfl
@[go_sem] theorem ty281 : tyI Try.prog 281 = some { size := 1, bytes := 8, zv := Value.int IntKind.u64 (Int.ofNat 0), kind := TK.int IntKind.u64, cts := [(0, 0)], scal := true, psz := 0, zts := [T.c (C.int IntKind.u64 (Int.ofNat 0))] } := by rfl
theorem follows_of {fr : Fr} (hP : fr.P = Try.prog) : (envOf fr Try.prog).fr.P.follows .mixedOrders = true := by rw [envOf_fr, hP]; rfl

@[go_sem] abbrev aI (n : Int) : Arg := .d (false, [.int .i64 n])
@[go_sem] abbrev rI (n : Int) : List Dat := [(false, [.int .i64 n])]
@[go_sem] abbrev rB (b : Bool) : List Dat := [(false, [.bool b])]
/-- A slice of numbers, as an argument and as a result of its own. -/
@[go_sem] abbrev sI (xs : List Int) : C := .sl none 1 (xs.map eI)
@[go_sem] abbrev oI (xs : List Int) : C := .sl (some 2) 1 (xs.map eI)
@[go_sem] abbrev aL (xs : List Int) : Arg := .d (false, [sI xs])
@[go_sem] abbrev rL (xs : List Int) : List Dat := [(false, [oI xs])]
theorem bndL {xs : List Int} {gs : List Arg} (h : Args.bnd (aL xs :: gs)) : xs.length ≤ maxLen := by
  have := h.1.1.1; rwa [List.length_map] at this
def inB (a b c : Int) : Bool := decide (b ≤ a) && decide (a ≤ c)
theorem s_l1In (a b c : Int) : Sat Try.prog 119 [aI a, aI b, aI c] true (rB (inB a b c)) := by
  refine sat_walk (fn := Try.f119) rfl rfl rfl (Nat.le_of_ble_eq_true rfl) fun fr hP hN hbnd => ?_
  have hE : (envOf fr Try.prog).Ok := envOf_ok hP
  have hM := follows_of hP
  have hS : ∀ {draw ops}, statB Try.f119.ntmps draw ops = true → statB (envOf fr Try.prog).fr.N draw ops = true := fun h => by rw [envOf_fr, hN]; exact h
  repeat' (first
    | exact True.intro
    | refine ev_seq ?_
    | ((first | refine vgd_go ?_ | refine ev_region hE hM (hS (by decide +kernel)) ?_ | refine ev_if ?_ | refine end_ret hE rfl rfl ?_ | refine end_norm hE rfl rfl ?_ | refine endG_ret [] hE rfl ?_ | refine endG_norm [] hE rfl ?_ | refine vcall_A ?_); simp (maxSteps := 2000000) only [go_sem, hP, ↓reduceIte, Nat.reduceAdd, Nat.reduceMul, Nat.reduceEqDiff, Nat.reduceSub, Nat.reduceLeDiff, reduceCtorEq])
    | refine ev_skip ?_ | refine ev_block ?_ | refine ev_blk ?_ | refine ev_ret ?_ | refine ev_exit ?_ | refine evx_code_ret ?_ | refine evx_blk_ret ?_ | refine evx_lp_ret ?_
    | refine evx_code_exit ?_ | refine evx_lp_exit ?_ | refine evx_blk_hit ?_ | refine evx_blk_pass (by decide) ?_
    | refine And.intro ?_ ?_ | intro _ | decide +kernel | omega)
  all_goals simp_all [inB] <;> omega
theorem s_within (a b c : Int) : Sat Try.prog 122 [aI a, aI b, aI c] true (rB (inB a b c)) := by
  refine sat_walk (fn := Try.f122) rfl rfl rfl (Nat.le_of_ble_eq_true rfl) fun fr hP hN hbnd => ?_
  have hE : (envOf fr Try.prog).Ok := envOf_ok hP
  have hM := follows_of hP
  have hS : ∀ {draw ops}, statB Try.f122.ntmps draw ops = true → statB (envOf fr Try.prog).fr.N draw ops = true := fun h => by rw [envOf_fr, hN]; exact h
  repeat' (first
    | exact True.intro
    | refine ev_seq ?_
    | ((first | refine vgd_go ?_ | refine ev_region hE hM (hS (by decide +kernel)) ?_ | refine ev_if ?_ | refine end_ret hE rfl rfl ?_ | refine end_norm hE rfl rfl ?_ | refine endG_ret [] hE rfl ?_ | refine endG_norm [] hE rfl ?_ | refine vcall_A ?_); simp (maxSteps := 2000000) only [go_sem, hP, ↓reduceIte, Nat.reduceAdd, Nat.reduceMul, Nat.reduceEqDiff, Nat.reduceSub, Nat.reduceLeDiff, reduceCtorEq])
    | refine ev_skip ?_ | refine ev_block ?_ | refine ev_blk ?_ | refine ev_ret ?_ | refine ev_exit ?_ | refine evx_code_ret ?_ | refine evx_blk_ret ?_ | refine evx_lp_ret ?_
    | refine evx_code_exit ?_ | refine evx_lp_exit ?_ | refine evx_blk_hit ?_ | refine evx_blk_pass (by decide) ?_
    | refine And.intro ?_ ?_ | intro _ | decide +kernel | omega)
  all_goals simp_all [inB] <;> omega
theorem s_isDims (a : Int) : Sat Try.prog 142 [aI a] true (rB (inB a 2 3)) := by
  refine sat_walk (fn := Try.f142) rfl rfl rfl (Nat.le_of_ble_eq_true rfl) fun fr hP hN hbnd => ?_
  have hE : (envOf fr Try.prog).Ok := envOf_ok hP
  have hM := follows_of hP
  have hS : ∀ {draw ops}, statB Try.f142.ntmps draw ops = true → statB (envOf fr Try.prog).fr.N draw ops = true := fun h => by rw [envOf_fr, hN]; exact h
  repeat' (first
    | exact True.intro
    | refine ev_seq ?_
    | ((first | refine vgd_go ?_ | refine ev_region hE hM (hS (by decide +kernel)) ?_ | refine ev_if ?_ | refine end_ret hE rfl rfl ?_ | refine end_norm hE rfl rfl ?_ | refine endG_ret [] hE rfl ?_ | refine endG_norm [] hE rfl ?_ | refine vcallB_of hP (s_within _ _ _) ?_ | refine vcall_A ?_); simp (maxSteps := 2000000) only [go_sem, hP, ↓reduceIte, Nat.reduceAdd, Nat.reduceMul, Nat.reduceEqDiff, Nat.reduceSub, Nat.reduceLeDiff, reduceCtorEq])
    | refine ev_skip ?_ | refine ev_block ?_ | refine ev_blk ?_ | refine ev_ret ?_ | refine ev_exit ?_ | refine evx_code_ret ?_ | refine evx_blk_ret ?_ | refine evx_lp_ret ?_
    | refine evx_code_exit ?_ | refine evx_lp_exit ?_ | refine evx_blk_hit ?_ | refine evx_blk_pass (by decide) ?_
    | refine And.intro ?_ ?_ | intro _ | decide +kernel | omega)
def pf (xs : List Int) (d : Int) : Int := if inB d 2 3 then (if (xs.length : Int) = d then (if xs.all (inB · (-1000) 1000) then 0 else 3) else 2) else 3
theorem s_specPointFault (xs : List Int) (d : Int) : Sat Try.prog 45 [aL xs, aI d] true (rI (pf xs d)) := by
  refine sat_walk (fn := Try.f45) rfl rfl rfl (Nat.le_of_ble_eq_true rfl) fun fr hP hN hbnd => ?_
  have hE : (envOf fr Try.prog).Ok := envOf_ok hP
  have hM := follows_of hP
  have hS : ∀ {draw ops}, statB Try.f45.ntmps draw ops = true → statB (envOf fr Try.prog).fr.N draw ops = true := fun h => by rw [envOf_fr, hN]; exact h
  have hlen := bndL hbnd
  repeat' (first
    | exact True.intro
    | refine ev_seq ?_
    | ((first | refine vgd_go ?_ | refine ev_region hE hM (hS (by decide +kernel)) ?_ | refine ev_if ?_ | refine end_ret hE rfl rfl ?_ | refine end_norm hE rfl rfl ?_ | refine endG_ret [] hE rfl ?_ | refine endG_norm [] hE rfl ?_ | refine vcallB_of hP (s_l1In _ _ _) ?_ | refine vcall_A ?_); simp (maxSteps := 2000000) only [go_sem, hP, ↓reduceIte, Nat.reduceAdd, Nat.reduceMul, Nat.reduceEqDiff, Nat.reduceSub, Nat.reduceLeDiff, reduceCtorEq])
    | refine ev_skip ?_ | refine ev_block ?_ | refine ev_blk ?_ | refine ev_ret ?_ | refine ev_exit ?_ | refine evx_code_ret ?_ | refine evx_blk_ret ?_ | refine evx_lp_ret ?_
    | refine evx_code_exit ?_ | refine evx_lp_exit ?_ | refine evx_blk_hit ?_ | refine evx_blk_pass (by decide) ?_
    | refine And.intro ?_ ?_ | intro _ | decide +kernel | omega)
  · simp_all [pf]
  · simp_all [pf]
  rename_i h1 h2
  refine ev_loop (ι := Nat) (fun k => [(0, .c (sI xs)), (5, .c (.int .i64 k))]) (fun _ => []) (fun _ => []) (fun k => k ≤ xs.length ∧ (xs.take k).all (inB · (-1000) 1000)) (fun k => xs.length - k) 0 [] ⟨by simp, by simp⟩ (by simp only [go_sem, hP, ↓reduceIte, Nat.reduceAdd, Nat.reduceMul, Nat.reduceEqDiff, Nat.reduceSub, Nat.reduceLeDiff, reduceCtorEq]; simp) ?_
  intro k hk
  repeat' (first
    | exact True.intro
    | refine ev_seq ?_
    | ((first | refine vgd_go ?_ | refine ev_region hE hM (hS (by decide +kernel)) ?_ | refine ev_if ?_ | refine end_ret hE rfl rfl ?_ | refine end_norm hE rfl rfl ?_ | refine endG_ret [] hE rfl ?_ | refine endG_norm [] hE rfl ?_ | refine vcallB_of hP (s_l1In _ _ _) ?_ | refine vcall_A ?_); simp (maxSteps := 2000000) only [go_sem, hP, ↓reduceIte, Nat.reduceAdd, Nat.reduceMul, Nat.reduceEqDiff, Nat.reduceSub, Nat.reduceLeDiff, reduceCtorEq])
    | refine ev_skip ?_ | refine ev_block ?_ | refine ev_blk ?_ | refine ev_ret ?_ | refine ev_exit ?_ | refine evx_code_ret ?_ | refine evx_blk_ret ?_ | refine evx_lp_ret ?_
    | refine evx_code_exit ?_ | refine evx_lp_exit ?_ | refine evx_blk_hit ?_ | refine evx_blk_pass (by decide) ?_
    | refine And.intro ?_ ?_ | intro _ | decide +kernel | omega)
  · rename_i h3 h4
    simp_all [pf, all_not (p := (inB · (-1000) 1000)) (xs := xs) (k := k) (d := default) (by omega) (by simpa using h4)]
  · rename_i h3 h4
    refine ev_lp (k + 1) [] ⟨by omega, all_step (d := default) (by omega) hk.2 (by simpa using h4)⟩ (by omega) (by simp only [go_sem, hP, ↓reduceIte, Nat.reduceAdd, Nat.reduceMul, Nat.reduceEqDiff, Nat.reduceSub, Nat.reduceLeDiff, reduceCtorEq]; simp; exact wrap_nat (by omega) hlen)
  · rename_i h3
    simp_all [pf, all_done (p := (inB · (-1000) 1000)) (xs := xs) (k := k) (by omega) hk.2]
theorem s_IndexFuncI (xs : List Int) (sem : List Dat → List Dat → Prop) (p : Int → Bool) (hp : ∀ x ∈ xs, sem [(false, [.int .i64 x])] [(false, [.bool (p x)])]) :
    Sat Try.prog 245 [aL xs, .fn sem] true (rI (if xs.any p then (xs.findIdx p : Int) else -1)) := by
  refine sat_walk (fn := Try.f245) rfl rfl rfl (Nat.le_of_ble_eq_true rfl) fun fr hP hN hbnd => ?_
  have hE : (envOf fr Try.prog).Ok := envOf_ok hP
  have hM := follows_of hP
  have hS : ∀ {draw ops}, statB Try.f245.ntmps draw ops = true → statB (envOf fr Try.prog).fr.N draw ops = true := fun h => by rw [envOf_fr, hN]; exact h
  have hlen := bndL hbnd
  repeat' (first
    | exact True.intro
    | refine ev_seq ?_
    | ((first | refine vgd_go ?_ | refine ev_region hE hM (hS (by decide +kernel)) ?_ | refine ev_if ?_ | refine end_ret hE rfl rfl ?_ | refine end_norm hE rfl rfl ?_ | refine endG_ret [] hE rfl ?_ | refine endG_norm [] hE rfl ?_ | refine vcall_A ?_); simp (maxSteps := 2000000) only [go_sem, hP, ↓reduceIte, Nat.reduceAdd, Nat.reduceMul, Nat.reduceEqDiff, Nat.reduceSub, Nat.reduceLeDiff, reduceCtorEq])
    | refine ev_skip ?_ | refine ev_block ?_ | refine ev_blk ?_ | refine ev_ret ?_ | refine ev_exit ?_ | refine evx_code_ret ?_ | refine evx_blk_ret ?_ | refine evx_lp_ret ?_
    | refine evx_code_exit ?_ | refine evx_lp_exit ?_ | refine evx_blk_hit ?_ | refine evx_blk_pass (by decide) ?_
    | refine And.intro ?_ ?_ | intro _ | decide +kernel | omega)
  refine ev_loop (ι := Nat) (fun k => [(0, .c (sI xs)), (1, .fn sem), (7, .c (.int .i64 xs.length)), (8, .c (.int .i64 k))]) (fun k => []) (fun _ => []) (fun k => k ≤ xs.length ∧ (xs.take k).any p = false) (fun k => xs.length - k) 0 [] (by simp) (by simp only [go_sem, hP, ↓reduceIte, Nat.reduceAdd, Nat.reduceMul, Nat.reduceEqDiff, Nat.reduceSub, Nat.reduceLeDiff, reduceCtorEq]; simp) ?_
  intro k hk
  have hq : k < xs.length → sem [(false, [.int .i64 (xs.getD k default)])] [(false, [.bool (p (xs.getD k default))])] := fun h => hp _ (getD_mem h)
  repeat' (first
    | exact True.intro
    | refine ev_seq ?_
    | ((first | refine vgd_go ?_ | refine ev_region hE hM (hS (by decide +kernel)) ?_ | refine ev_if ?_ | refine end_ret hE rfl rfl ?_ | refine end_norm hE rfl rfl ?_ | refine endG_ret [] hE rfl ?_ | refine endG_norm [] hE rfl ?_ | refine vcallFn_of [(false, [.int .i64 (xs.getD k default)])] [] [(false, [.bool (p (xs.getD k default))])] (by simp only [go_sem, hP, ↓reduceIte, Nat.reduceAdd, Nat.reduceMul, Nat.reduceEqDiff, Nat.reduceSub, Nat.reduceLeDiff, reduceCtorEq]) (hq (by omega)) ?_ | refine vcall_A ?_); simp (maxSteps := 2000000) only [go_sem, hP, ↓reduceIte, Nat.reduceAdd, Nat.reduceMul, Nat.reduceEqDiff, Nat.reduceSub, Nat.reduceLeDiff, reduceCtorEq])
    | refine ev_skip ?_ | refine ev_block ?_ | refine ev_blk ?_ | refine ev_ret ?_ | refine ev_exit ?_ | refine evx_code_ret ?_ | refine evx_blk_ret ?_ | refine evx_lp_ret ?_
    | refine evx_code_exit ?_ | refine evx_lp_exit ?_ | refine evx_blk_hit ?_ | refine evx_blk_pass (by decide) ?_
    | refine And.intro ?_ ?_ | intro _ | decide +kernel | omega)
  · rename_i h1 h2
    rw [any_yes (d := default) (by omega) h2, findIdx_here (d := default) (by omega) hk.2 h2]; rfl
  · rename_i h1 h2
    exact ev_lp (k + 1) [] ⟨by omega, any_step (d := default) (by omega) hk.2 h2⟩ (by omega) (by simp only [go_sem, hP, ↓reduceIte, Nat.reduceAdd, Nat.reduceMul, Nat.reduceEqDiff, Nat.reduceSub, Nat.reduceLeDiff, reduceCtorEq]; simp; exact wrap_nat (by omega) hlen)
  · rw [any_done (by omega) hk.2]; rfl
theorem s_ContainsFuncI (xs : List Int) (sem : List Dat → List Dat → Prop) (p : Int → Bool) (hp : ∀ x ∈ xs, sem [(false, [.int .i64 x])] [(false, [.bool (p x)])]) :
    Sat Try.prog 143 [aL xs, .fn sem] true (rB (xs.any p)) := by
  refine sat_walk (fn := Try.f143) rfl rfl rfl (Nat.le_of_ble_eq_true rfl) fun fr hP hN hbnd => ?_
  have hE : (envOf fr Try.prog).Ok := envOf_ok hP
  have hM := follows_of hP
  have hS : ∀ {draw ops}, statB Try.f143.ntmps draw ops = true → statB (envOf fr Try.prog).fr.N draw ops = true := fun h => by rw [envOf_fr, hN]; exact h
  repeat' (first
    | exact True.intro
    | refine ev_seq ?_
    | ((first | refine vgd_go ?_ | refine ev_region hE hM (hS (by decide +kernel)) ?_ | refine ev_if ?_ | refine end_ret hE rfl rfl ?_ | refine end_norm hE rfl rfl ?_ | refine endG_ret [] hE rfl ?_ | refine endG_norm [] hE rfl ?_ | refine vcallB_of hP (s_IndexFuncI _ _ p hp) ?_ | refine vcall_A ?_); simp (maxSteps := 2000000) only [go_sem, hP, ↓reduceIte, Nat.reduceAdd, Nat.reduceMul, Nat.reduceEqDiff, Nat.reduceSub, Nat.reduceLeDiff, reduceCtorEq])
    | refine ev_skip ?_ | refine ev_block ?_ | refine ev_blk ?_ | refine ev_ret ?_ | refine ev_exit ?_ | refine evx_code_ret ?_ | refine evx_blk_ret ?_ | refine evx_lp_ret ?_
    | refine evx_code_exit ?_ | refine evx_lp_exit ?_ | refine evx_blk_hit ?_ | refine evx_blk_pass (by decide) ?_
    | refine And.intro ?_ ?_ | intro _ | decide +kernel | omega)
  · split <;> simp_all <;> omega
theorem s_PointFault1 (a : Int) : Sat Try.prog 144 [aI a] true (rB (!inB a (-1000) 1000)) := by
  refine sat_walk (fn := Try.f144) rfl rfl rfl (Nat.le_of_ble_eq_true rfl) fun fr hP hN hbnd => ?_
  have hE : (envOf fr Try.prog).Ok := envOf_ok hP
  have hM := follows_of hP
  have hS : ∀ {draw ops}, statB Try.f144.ntmps draw ops = true → statB (envOf fr Try.prog).fr.N draw ops = true := fun h => by rw [envOf_fr, hN]; exact h
  repeat' (first
    | exact True.intro
    | refine ev_seq ?_
    | ((first | refine vgd_go ?_ | refine ev_region hE hM (hS (by decide +kernel)) ?_ | refine ev_if ?_ | refine end_ret hE rfl rfl ?_ | refine end_norm hE rfl rfl ?_ | refine endG_ret [] hE rfl ?_ | refine endG_norm [] hE rfl ?_ | refine vcallB_of hP (s_within _ _ _) ?_ | refine vcall_A ?_); simp (maxSteps := 2000000) only [go_sem, hP, ↓reduceIte, Nat.reduceAdd, Nat.reduceMul, Nat.reduceEqDiff, Nat.reduceSub, Nat.reduceLeDiff, reduceCtorEq])
    | refine ev_skip ?_ | refine ev_block ?_ | refine ev_blk ?_ | refine ev_ret ?_ | refine ev_exit ?_ | refine evx_code_ret ?_ | refine evx_blk_ret ?_ | refine evx_lp_ret ?_
    | refine evx_code_exit ?_ | refine evx_lp_exit ?_ | refine evx_blk_hit ?_ | refine evx_blk_pass (by decide) ?_
    | refine And.intro ?_ ?_ | intro _ | decide +kernel | omega)
theorem s_implPointFault (xs : List Int) (d : Int) : Sat Try.prog 44 [aL xs, aI d] true (rI (pf xs d)) := by
  refine sat_walk (fn := Try.f44) rfl rfl rfl (Nat.le_of_ble_eq_true rfl) fun fr hP hN hbnd => ?_
  have hE : (envOf fr Try.prog).Ok := envOf_ok hP
  have hM := follows_of hP
  have hS : ∀ {draw ops}, statB Try.f44.ntmps draw ops = true → statB (envOf fr Try.prog).fr.N draw ops = true := fun h => by rw [envOf_fr, hN]; exact h
  repeat' (first
    | exact True.intro
    | refine ev_seq ?_
    | ((first | refine vgd_go ?_ | refine ev_region hE hM (hS (by decide +kernel)) ?_ | refine ev_if ?_ | refine end_ret hE rfl rfl ?_ | refine end_norm hE rfl rfl ?_ | refine endG_ret [] hE rfl ?_ | refine endG_norm [] hE rfl ?_ | refine vcallB_of hP (s_isDims _) ?_ | refine vcallB_of hP (s_ContainsFuncI xs _ (fun x => !inB x (-1000) 1000) (fun x _ => s_PointFault1 x)) ?_ | refine vcall_A ?_); simp (maxSteps := 2000000) only [go_sem, hP, ↓reduceIte, Nat.reduceAdd, Nat.reduceMul, Nat.reduceEqDiff, Nat.reduceSub, Nat.reduceLeDiff, reduceCtorEq])
    | refine ev_skip ?_ | refine ev_block ?_ | refine ev_blk ?_ | refine ev_ret ?_ | refine ev_exit ?_ | refine evx_code_ret ?_ | refine evx_blk_ret ?_ | refine evx_lp_ret ?_
    | refine evx_code_exit ?_ | refine evx_lp_exit ?_ | refine evx_blk_hit ?_ | refine evx_blk_pass (by decide) ?_
    | refine And.intro ?_ ?_ | intro _ | decide +kernel | omega)
  all_goals simp_all [pf]
structure Rect where
  low : List Int
  high : List Int
  deriving DecidableEq, Inhabited
@[go_sem] abbrev cR (r : Rect) : List C := [sI r.low, sI r.high]
@[go_sem] abbrev oR (r : Rect) : List C := [oI r.low, oI r.high]
@[go_sem] abbrev aR (r : Rect) : Arg := .d (true, cR r)
@[go_sem] abbrev pR (r : Rect) : Arg := .pv (cR r)
@[go_sem] abbrev rR (r : Rect) : List Dat := [(true, oR r)]
theorem bndR {r : Rect} {gs : List Arg} (h : Args.bnd (aR r :: gs)) : r.low.length ≤ maxLen ∧ r.high.length ≤ maxLen := by
  have h1 := h.1.1.1; have h2 := h.1.2.1.1
  rw [List.length_map] at h1 h2; exact ⟨h1, h2⟩
theorem bndPR {r : Rect} {gs : List Arg} (h : Args.bnd (pR r :: gs)) : r.low.length ≤ maxLen ∧ r.high.length ≤ maxLen := by
  have h1 := h.1.1.1; have h2 := h.1.2.1.1
  rw [List.length_map] at h1 h2; exact ⟨h1, h2⟩
theorem eqR (a b : Rect) : a = b ↔ a.low = b.low ∧ a.high = b.high := by cases a; cases b; simp
def wR (r : Rect) : Nat := r.low.length + r.high.length
theorem pf_len {xs : List Int} {d : Int} (h : pf xs d = 0) : (xs.length : Int) = d := by
  unfold pf at h; split at h <;> (try split at h) <;> simp_all
/-- The low corner is nowhere above the high one. -/
def lowHigh (r : Rect) : Bool := allLt r.low.length fun j => decide (r.low.getD j default ≤ r.high.getD j default)
def rf (r : Rect) (d : Int) : Int := if pf r.low d ≠ 0 then pf r.low d else if pf r.high d ≠ 0 then pf r.high d else if lowHigh r then 0 else 1
theorem s_specRectFault (r : Rect) (d : Int) : Sat Try.prog 140 [aR r, aI d] true (rI (rf r d)) := by
  refine sat_walk (fn := Try.f140) rfl rfl rfl (Nat.le_of_ble_eq_true rfl) fun fr hP hN hbnd => ?_
  have hE : (envOf fr Try.prog).Ok := envOf_ok hP
  have hM := follows_of hP
  have hS : ∀ {draw ops}, statB Try.f140.ntmps draw ops = true → statB (envOf fr Try.prog).fr.N draw ops = true := fun h => by rw [envOf_fr, hN]; exact h
  have hl := bndR hbnd
  repeat' (first
    | exact True.intro
    | refine ev_seq ?_
    | ((first | refine vgd_go ?_ | refine ev_region hE hM (hS (by decide +kernel)) ?_ | refine ev_if ?_ | refine end_ret hE rfl rfl ?_ | refine end_norm hE rfl rfl ?_ | refine endG_ret [] hE rfl ?_ | refine endG_norm [] hE rfl ?_ | refine vcallB_of hP (s_specPointFault _ _) ?_ | refine vcall_A ?_); simp (maxSteps := 2000000) only [go_sem, hP, ↓reduceIte, Nat.reduceAdd, Nat.reduceMul, Nat.reduceEqDiff, Nat.reduceSub, Nat.reduceLeDiff, reduceCtorEq])
    | refine ev_skip ?_ | refine ev_block ?_ | refine ev_blk ?_ | refine ev_ret ?_ | refine ev_exit ?_ | refine evx_code_ret ?_ | refine evx_blk_ret ?_ | refine evx_lp_ret ?_
    | refine evx_code_exit ?_ | refine evx_lp_exit ?_ | refine evx_blk_hit ?_ | refine evx_blk_pass (by decide) ?_
    | refine And.intro ?_ ?_ | intro _ | decide +kernel | omega)
  · simp_all [rf]
  · simp_all [rf]
  rename_i h1 h2
  have e1 := pf_len (by simpa using h1)
  have e2 := pf_len (by simpa using h2)
  refine ev_loop (ι := Nat) (fun k => [(2, .ptr 0 0), (7, .c (.int .i64 k))]) (fun k => [(0, .box [.c (sI r.low), .c (sI r.high)])]) (fun _ => []) (fun k => k ≤ r.low.length ∧ allLt k (fun j => decide (r.low.getD j default ≤ r.high.getD j default)) = true) (fun k => r.low.length - k) 0 [] (by simp [allLt_zero] <;> omega) (by simp only [go_sem, hP, ↓reduceIte, Nat.reduceAdd, Nat.reduceMul, Nat.reduceEqDiff, Nat.reduceSub, Nat.reduceLeDiff, reduceCtorEq]; simp) ?_
  intro k hk
  repeat' (first
    | exact True.intro
    | refine ev_seq ?_
    | ((first | refine vgd_go ?_ | refine ev_region hE hM (hS (by decide +kernel)) ?_ | refine ev_if ?_ | refine end_ret hE rfl rfl ?_ | refine end_norm hE rfl rfl ?_ | refine endG_ret [] hE rfl ?_ | refine endG_norm [] hE rfl ?_ | refine vcall_A ?_); simp (maxSteps := 2000000) only [go_sem, hP, ↓reduceIte, Nat.reduceAdd, Nat.reduceMul, Nat.reduceEqDiff, Nat.reduceSub, Nat.reduceLeDiff, reduceCtorEq])
    | refine ev_skip ?_ | refine ev_block ?_ | refine ev_blk ?_ | refine ev_ret ?_ | refine ev_exit ?_ | refine evx_code_ret ?_ | refine evx_blk_ret ?_ | refine evx_lp_ret ?_
    | refine evx_code_exit ?_ | refine evx_lp_exit ?_ | refine evx_blk_hit ?_ | refine evx_blk_pass (by decide) ?_
    | refine And.intro ?_ ?_ | intro _ | decide +kernel | omega)
  · rename_i h3 h4
    have : lowHigh r = false := allLt_not (k := k) (by omega) (by simpa using h4)
    simp_all [rf]
  · rename_i h3 h4
    exact ev_lp (k + 1) [] ⟨by omega, allLt_step hk.2 (by simpa using h4)⟩ (by omega) (by simp only [go_sem, hP, ↓reduceIte, Nat.reduceAdd, Nat.reduceMul, Nat.reduceEqDiff, Nat.reduceSub, Nat.reduceLeDiff, reduceCtorEq]; simp; exact wrap_nat (by omega) hl.1)
  · have : lowHigh r = true := allLt_done (by omega) hk.2
    simp_all [rf]
theorem s_implRectFault (r : Rect) (d : Int) : Sat Try.prog 53 [aR r, aI d] true (rI (rf r d)) := by
  refine sat_walk (fn := Try.f53) rfl rfl rfl (Nat.le_of_ble_eq_true rfl) fun fr hP hN hbnd => ?_
  have hE : (envOf fr Try.prog).Ok := envOf_ok hP
  have hM := follows_of hP
  have hS : ∀ {draw ops}, statB Try.f53.ntmps draw ops = true → statB (envOf fr Try.prog).fr.N draw ops = true := fun h => by rw [envOf_fr, hN]; exact h
  have hl := bndR hbnd
  repeat' (first
    | exact True.intro
    | refine ev_seq ?_
    | ((first | refine vgd_go ?_ | refine ev_region hE hM (hS (by decide +kernel)) ?_ | refine ev_if ?_ | refine end_ret hE rfl rfl ?_ | refine end_norm hE rfl rfl ?_ | refine endG_ret [] hE rfl ?_ | refine endG_norm [] hE rfl ?_ | refine vcallB_of hP (s_implPointFault _ _) ?_ | refine vcall_A ?_); simp (maxSteps := 2000000) only [go_sem, hP, ↓reduceIte, Nat.reduceAdd, Nat.reduceMul, Nat.reduceEqDiff, Nat.reduceSub, Nat.reduceLeDiff, reduceCtorEq])
    | refine ev_skip ?_ | refine ev_block ?_ | refine ev_blk ?_ | refine ev_ret ?_ | refine ev_exit ?_ | refine evx_code_ret ?_ | refine evx_blk_ret ?_ | refine evx_lp_ret ?_
    | refine evx_code_exit ?_ | refine evx_lp_exit ?_ | refine evx_blk_hit ?_ | refine evx_blk_pass (by decide) ?_
    | refine And.intro ?_ ?_ | intro _ | decide +kernel | omega)
  · simp_all [rf]
  · simp_all [rf]
  rename_i h1 h2
  have e1 := pf_len (by simpa using h1)
  have e2 := pf_len (by simpa using h2)
  refine ev_loop (ι := Nat) (fun k => [(2, .ptr 0 0), (24, .c (sI r.low)), (25, .c (.int .i64 r.low.length)), (26, .c (.int .i64 k))]) (fun k => [(0, .box [.c (sI r.low), .c (sI r.high)])]) (fun _ => []) (fun k => k ≤ r.low.length ∧ allLt k (fun j => decide (r.low.getD j default ≤ r.high.getD j default)) = true) (fun k => r.low.length - k) 0 [] (by simp [allLt_zero] <;> omega) (by simp only [go_sem, hP, ↓reduceIte, Nat.reduceAdd, Nat.reduceMul, Nat.reduceEqDiff, Nat.reduceSub, Nat.reduceLeDiff, reduceCtorEq]; simp) ?_
  intro k hk
  repeat' (first
    | exact True.intro
    | refine ev_seq ?_
    | ((first | refine vgd_go ?_ | refine ev_region hE hM (hS (by decide +kernel)) ?_ | refine ev_if ?_ | refine end_ret hE rfl rfl ?_ | refine end_norm hE rfl rfl ?_ | refine endG_ret [] hE rfl ?_ | refine endG_norm [] hE rfl ?_ | refine vcall_A ?_); simp (maxSteps := 2000000) only [go_sem, hP, ↓reduceIte, Nat.reduceAdd, Nat.reduceMul, Nat.reduceEqDiff, Nat.reduceSub, Nat.reduceLeDiff, reduceCtorEq])
    | refine ev_skip ?_ | refine ev_block ?_ | refine ev_blk ?_ | refine ev_ret ?_ | refine ev_exit ?_ | refine evx_code_ret ?_ | refine evx_blk_ret ?_ | refine evx_lp_ret ?_
    | refine evx_code_exit ?_ | refine evx_lp_exit ?_ | refine evx_blk_hit ?_ | refine evx_blk_pass (by decide) ?_
    | refine And.intro ?_ ?_ | intro _ | decide +kernel | omega)
  · rename_i h3 h4
    have : lowHigh r = false := allLt_not (k := k) (by omega) (by simpa using h4)
    simp_all [rf]
  · rename_i h3 h4
    exact ev_lp (k + 1) [] ⟨by omega, allLt_step hk.2 (by simpa using h4)⟩ (by omega) (by simp only [go_sem, hP, ↓reduceIte, Nat.reduceAdd, Nat.reduceMul, Nat.reduceEqDiff, Nat.reduceSub, Nat.reduceLeDiff, reduceCtorEq]; simp; exact wrap_nat (by omega) hl.1)
  · have : lowHigh r = true := allLt_done (by omega) hk.2
    simp_all [rf]
theorem rf_len {r : Rect} {d : Int} (h : rf r d = 0) : (r.low.length : Int) = d ∧ (r.high.length : Int) = d := by
  unfold rf at h
  split at h
  · simp_all
  · split at h
    · simp_all
    · rename_i h1 h2
      exact ⟨pf_len (by simpa using h1), pf_len (by simpa using h2)⟩
def two (a b : Rect) : Int := if rf a a.low.length ≠ 0 then rf a a.low.length else rf b a.low.length
structure Lens (a b : Rect) : Prop where
  h1 : a.high.length = a.low.length
  h2 : b.low.length = a.low.length
  h3 : b.high.length = a.low.length
theorem two_lens {a b : Rect} (h : two a b = 0) : Lens a b := by
  unfold two at h
  split at h
  · simp_all
  · rename_i h1
    have e1 := rf_len (by simpa using h1)
    have e2 := rf_len h
    exact ⟨by omega, by omega, by omega⟩
theorem s_ownDims (r : Rect) : Sat Try.prog 136 [aR r] true (rI r.low.length) := by
  refine sat_walk (fn := Try.f136) rfl rfl rfl (Nat.le_of_ble_eq_true rfl) fun fr hP hN hbnd => ?_
  have hE : (envOf fr Try.prog).Ok := envOf_ok hP
  have hM := follows_of hP
  have hS : ∀ {draw ops}, statB Try.f136.ntmps draw ops = true → statB (envOf fr Try.prog).fr.N draw ops = true := fun h => by rw [envOf_fr, hN]; exact h
  repeat' (first
    | exact True.intro
    | refine ev_seq ?_
    | ((first | refine vgd_go ?_ | refine ev_region hE hM (hS (by decide +kernel)) ?_ | refine ev_if ?_ | refine end_ret hE rfl rfl ?_ | refine end_norm hE rfl rfl ?_ | refine endG_ret [] hE rfl ?_ | refine endG_norm [] hE rfl ?_ | refine vcall_A ?_); simp (maxSteps := 2000000) only [go_sem, hP, ↓reduceIte, Nat.reduceAdd, Nat.reduceMul, Nat.reduceEqDiff, Nat.reduceSub, Nat.reduceLeDiff, reduceCtorEq])
    | refine ev_skip ?_ | refine ev_block ?_ | refine ev_blk ?_ | refine ev_ret ?_ | refine ev_exit ?_ | refine evx_code_ret ?_ | refine evx_blk_ret ?_ | refine evx_lp_ret ?_
    | refine evx_code_exit ?_ | refine evx_lp_exit ?_ | refine evx_blk_hit ?_ | refine evx_blk_pass (by decide) ?_
    | refine And.intro ?_ ?_ | intro _ | decide +kernel | omega)
theorem s_twoFault (a b : Rect) : Sat Try.prog 145 [aR a, aR b] true (rI (two a b)) := by
  refine sat_walk (fn := Try.f145) rfl rfl rfl (Nat.le_of_ble_eq_true rfl) fun fr hP hN hbnd => ?_
  have hE : (envOf fr Try.prog).Ok := envOf_ok hP
  have hM := follows_of hP
  have hS : ∀ {draw ops}, statB Try.f145.ntmps draw ops = true → statB (envOf fr Try.prog).fr.N draw ops = true := fun h => by rw [envOf_fr, hN]; exact h
  repeat' (first
    | exact True.intro
    | refine ev_seq ?_
    | ((first | refine vgd_go ?_ | refine ev_region hE hM (hS (by decide +kernel)) ?_ | refine ev_if ?_ | refine end_ret hE rfl rfl ?_ | refine end_norm hE rfl rfl ?_ | refine endG_ret [] hE rfl ?_ | refine endG_norm [] hE rfl ?_ | refine vcallB_of hP (s_ownDims _) ?_ | refine vcallB_of hP (s_implRectFault _ _) ?_ | refine vcall_A ?_); simp (maxSteps := 2000000) only [go_sem, hP, ↓reduceIte, Nat.reduceAdd, Nat.reduceMul, Nat.reduceEqDiff, Nat.reduceSub, Nat.reduceLeDiff, reduceCtorEq])
    | refine ev_skip ?_ | refine ev_block ?_ | refine ev_blk ?_ | refine ev_ret ?_ | refine ev_exit ?_ | refine evx_code_ret ?_ | refine evx_blk_ret ?_ | refine evx_lp_ret ?_
    | refine evx_code_exit ?_ | refine evx_lp_exit ?_ | refine evx_blk_hit ?_ | refine evx_blk_pass (by decide) ?_
    | refine And.intro ?_ ?_ | intro _ | decide +kernel | omega)
  all_goals simp_all [two]
theorem s_l1Two (a b : Rect) : Sat Try.prog 153 [pR a, pR b] true (rI (two a b)) := by
  refine sat_walk (fn := Try.f153) rfl rfl rfl (Nat.le_of_ble_eq_true rfl) fun fr hP hN hbnd => ?_
  have hE : (envOf fr Try.prog).Ok := envOf_ok hP
  have hM := follows_of hP
  have hS : ∀ {draw ops}, statB Try.f153.ntmps draw ops = true → statB (envOf fr Try.prog).fr.N draw ops = true := fun h => by rw [envOf_fr, hN]; exact h
  repeat' (first
    | exact True.intro
    | refine ev_seq ?_
    | ((first | refine vgd_go ?_ | refine ev_region hE hM (hS (by decide +kernel)) ?_ | refine ev_if ?_ | refine end_ret hE rfl rfl ?_ | refine end_norm hE rfl rfl ?_ | refine endG_ret [] hE rfl ?_ | refine endG_norm [] hE rfl ?_ | refine vcallB_of hP (s_specRectFault _ _) ?_ | refine vcall_A ?_); simp (maxSteps := 2000000) only [go_sem, hP, ↓reduceIte, Nat.reduceAdd, Nat.reduceMul, Nat.reduceEqDiff, Nat.reduceSub, Nat.reduceLeDiff, reduceCtorEq])
    | refine ev_skip ?_ | refine ev_block ?_ | refine ev_blk ?_ | refine ev_ret ?_ | refine ev_exit ?_ | refine evx_code_ret ?_ | refine evx_blk_ret ?_ | refine evx_lp_ret ?_
    | refine evx_code_exit ?_ | refine evx_lp_exit ?_ | refine evx_blk_hit ?_ | refine evx_blk_pass (by decide) ?_
    | refine And.intro ?_ ?_ | intro _ | decide +kernel | omega)
  all_goals simp_all [two]
def coversAt (a b : Rect) (j : Nat) : Bool := !(decide (a.low.getD j default > b.low.getD j default) || decide (a.high.getD j default < b.high.getD j default))
def covers (a b : Rect) : Bool := allLt a.low.length (coversAt a b)
def meetsAt (a b : Rect) (j : Nat) : Bool := !(decide (a.low.getD j default > b.high.getD j default) || decide (b.low.getD j default > a.high.getD j default))
def meets (a b : Rect) : Bool := allLt a.low.length (meetsAt a b)
theorem s_implmeets (a b : Rect) (h : Lens a b) : Sat Try.prog 155 [aR a, aR b] true (rB (meets a b)) := by
  refine sat_walk (fn := Try.f155) rfl rfl rfl (Nat.le_of_ble_eq_true rfl) fun fr hP hN hbnd => ?_
  have hE : (envOf fr Try.prog).Ok := envOf_ok hP
  have hM := follows_of hP
  have hS : ∀ {draw ops}, statB Try.f155.ntmps draw ops = true → statB (envOf fr Try.prog).fr.N draw ops = true := fun h => by rw [envOf_fr, hN]; exact h
  have hl := bndR hbnd
  obtain ⟨e1, e2, e3⟩ := h
  repeat' (first
    | exact True.intro
    | refine ev_seq ?_
    | ((first | refine vgd_go ?_ | refine ev_region hE hM (hS (by decide +kernel)) ?_ | refine ev_if ?_ | refine end_ret hE rfl rfl ?_ | refine end_norm hE rfl rfl ?_ | refine endG_ret [] hE rfl ?_ | refine endG_norm [] hE rfl ?_ | refine vcall_A ?_); simp (maxSteps := 2000000) only [go_sem, hP, ↓reduceIte, Nat.reduceAdd, Nat.reduceMul, Nat.reduceEqDiff, Nat.reduceSub, Nat.reduceLeDiff, reduceCtorEq])
    | refine ev_skip ?_ | refine ev_block ?_ | refine ev_blk ?_ | refine ev_ret ?_ | refine ev_exit ?_ | refine evx_code_ret ?_ | refine evx_blk_ret ?_ | refine evx_lp_ret ?_
    | refine evx_code_exit ?_ | refine evx_lp_exit ?_ | refine evx_blk_hit ?_ | refine evx_blk_pass (by decide) ?_
    | refine And.intro ?_ ?_ | intro _ | decide +kernel | omega)
  refine ev_loop (ι := Nat) (fun k => [(2, .ptr 0 0), (3, .ptr 8 0), (8, .c (.int .i64 a.low.length)), (9, .c (.int .i64 k))]) (fun k => [(0, .box [.c (sI a.low), .c (sI a.high)]), (8, .box [.c (sI b.low), .c (sI b.high)])]) (fun _ => []) (fun k => k ≤ a.low.length ∧ allLt k (meetsAt a b) = true) (fun k => a.low.length - k) 0 [] (by simp [allLt_zero] <;> omega) (by simp only [go_sem, hP, ↓reduceIte, Nat.reduceAdd, Nat.reduceMul, Nat.reduceEqDiff, Nat.reduceSub, Nat.reduceLeDiff, reduceCtorEq]; simp) ?_
  intro k hk
  repeat' (first
    | exact True.intro
    | refine ev_seq ?_
    | ((first | refine vgd_go ?_ | refine ev_region hE hM (hS (by decide +kernel)) ?_ | refine ev_if ?_ | refine end_ret hE rfl rfl ?_ | refine end_norm hE rfl rfl ?_ | refine endG_ret [] hE rfl ?_ | refine endG_norm [] hE rfl ?_ | refine vcall_A ?_); simp (maxSteps := 2000000) only [go_sem, hP, ↓reduceIte, Nat.reduceAdd, Nat.reduceMul, Nat.reduceEqDiff, Nat.reduceSub, Nat.reduceLeDiff, reduceCtorEq])
    | refine ev_skip ?_ | refine ev_block ?_ | refine ev_blk ?_ | refine ev_ret ?_ | refine ev_exit ?_ | refine evx_code_ret ?_ | refine evx_blk_ret ?_ | refine evx_lp_ret ?_
    | refine evx_code_exit ?_ | refine evx_lp_exit ?_ | refine evx_blk_hit ?_ | refine evx_blk_pass (by decide) ?_
    | refine And.intro ?_ ?_ | intro _ | decide +kernel | omega)
  all_goals first
    | exact ev_lp (k + 1) [] ⟨by omega, allLt_step hk.2 (by simp_all [meetsAt])⟩ (by omega) (by simp only [go_sem, hP, ↓reduceIte, Nat.reduceAdd, Nat.reduceMul, Nat.reduceEqDiff, Nat.reduceSub, Nat.reduceLeDiff, reduceCtorEq]; simp; exact wrap_nat (by omega) hl.1)
    | (have h9 : allLt a.low.length (meetsAt a b) = false := allLt_not (k := k) (by omega) (by simp_all [meetsAt])
       simp_all [meets]; done)
    | (have h9 : allLt a.low.length (meetsAt a b) = true := allLt_done (by omega) hk.2
       simp_all [meets]; done)
theorem s_implMeets (a b : Rect) : Sat Try.prog 50 [aR a, aR b] true (rB (two a b == 0 && meets a b)) := by
  refine sat_walk (fn := Try.f50) rfl rfl rfl (Nat.le_of_ble_eq_true rfl) fun fr hP hN hbnd => ?_
  have hE : (envOf fr Try.prog).Ok := envOf_ok hP
  have hM := follows_of hP
  have hS : ∀ {draw ops}, statB Try.f50.ntmps draw ops = true → statB (envOf fr Try.prog).fr.N draw ops = true := fun h => by rw [envOf_fr, hN]; exact h
  repeat' (first
    | exact True.intro
    | refine ev_seq ?_
    | ((first | refine vgd_go ?_ | refine ev_region hE hM (hS (by decide +kernel)) ?_ | refine ev_if ?_ | refine end_ret hE rfl rfl ?_ | refine end_norm hE rfl rfl ?_ | refine endG_ret [] hE rfl ?_ | refine endG_norm [] hE rfl ?_ | refine vcallB_of hP (s_twoFault _ _) ?_ | refine vcallB_of hP (s_implmeets _ _ (two_lens (by simp_all))) ?_ | refine vcall_A ?_); simp (maxSteps := 2000000) only [go_sem, hP, ↓reduceIte, Nat.reduceAdd, Nat.reduceMul, Nat.reduceEqDiff, Nat.reduceSub, Nat.reduceLeDiff, reduceCtorEq])
    | refine ev_skip ?_ | refine ev_block ?_ | refine ev_blk ?_ | refine ev_ret ?_ | refine ev_exit ?_ | refine evx_code_ret ?_ | refine evx_blk_ret ?_ | refine evx_lp_ret ?_
    | refine evx_code_exit ?_ | refine evx_lp_exit ?_ | refine evx_blk_hit ?_ | refine evx_blk_pass (by decide) ?_
    | refine And.intro ?_ ?_ | intro _ | decide +kernel | omega)
  all_goals simp_all
def areaTo (r : Rect) : Nat → Int
  | 0 => 1
  | k + 1 => IntKind.i64.wrap (areaTo r k * IntKind.i64.wrap (r.high.getD k default - r.low.getD k default))
@[simp] theorem areaTo_zero (r : Rect) : areaTo r 0 = 1 := rfl
def area (r : Rect) : Int := areaTo r r.low.length
theorem wr_i64 (n : Int) : IntKind.i64.wrap n = (n + 9223372036854775808) % 18446744073709551616 - 9223372036854775808 := by
  rw [i64_left]; unfold wrap64; omega
theorem wr1 (a b c : Int) : IntKind.i64.wrap (IntKind.i64.wrap (a + b) - c) = IntKind.i64.wrap (a + (b - c)) := by simp only [wr_i64]; omega
theorem wr2 (a b c : Int) : IntKind.i64.wrap (a + IntKind.i64.wrap (b - c)) = IntKind.i64.wrap (a + (b - c)) := by simp only [wr_i64]; omega
theorem pf_at {xs : List Int} {d : Int} (h : pf xs d = 0) (k : Nat) (hk : k < xs.length) : -1000 ≤ xs.getD k default ∧ xs.getD k default ≤ 1000 := by
  have ha : xs.all (inB · (-1000) 1000) = true := by
    unfold pf at h; split at h <;> (try split at h) <;> (try split at h) <;> simp_all
  have := List.all_eq_true.mp ha _ (getD_mem (d := default) hk)
  simpa [inB] using this
theorem rf_at {r : Rect} {d : Int} (h : rf r d = 0) (k : Nat) (hk : k < r.low.length) :
    -1000 ≤ r.low.getD k default ∧ r.low.getD k default ≤ r.high.getD k default ∧ r.high.getD k default ≤ 1000 := by
  have hl := rf_len h
  unfold rf at h
  split at h
  · simp_all
  rename_i h1
  split at h
  · simp_all
  rename_i h2
  split at h
  · rename_i h3
    have e1 := pf_at (by simpa using h1) k hk
    have e2 := pf_at (by simpa using h2) k (by omega)
    have e3 := allLt_iff.mp h3 k hk
    simp at e3
    simp at e1 e2 ⊢
    omega
  · simp_all
structure Good (r : Rect) (p : List Int) : Prop where
  h1 : r.high.length = r.low.length
  h2 : p.length = r.low.length
  h3 : ∀ k, k < r.low.length → -1000 ≤ r.low.getD k default ∧ r.low.getD k default ≤ r.high.getD k default ∧ r.high.getD k default ≤ 1000
  h4 : ∀ k, k < r.low.length → -1000 ≤ p.getD k default ∧ p.getD k default ≤ 1000
theorem good_of {r : Rect} {p : List Int} {d : Int} (h : rf r d = 0) (h' : pf p d = 0) : Good r p := by
  have e1 := rf_len h
  have e2 := pf_len h'
  exact ⟨by omega, by omega, fun k hk => rf_at h k hk, fun k hk => pf_at h' k (by omega)⟩
def distAt (r : Rect) (p : List Int) (k : Nat) : Int := max (max 0 (r.low.getD k default - p.getD k default)) (p.getD k default - r.high.getD k default)
def distTo (r : Rect) (p : List Int) : Nat → Int
  | 0 => 0
  | k + 1 => IntKind.i64.wrap (distTo r p k + distAt r p k)
@[simp] theorem distTo_zero (r : Rect) (p : List Int) : distTo r p 0 = 0 := rfl
def dist (r : Rect) (p : List Int) : Int := distTo r p r.low.length
theorem wr_small {n : Int} (h : -9000 ≤ n ∧ n ≤ 9000) : IntKind.i64.wrap n = n := by rw [wr_i64]; omega
theorem dist_spec {r : Rect} {p : List Int} (g : Good r p) (k : Nat) (hk : k < r.low.length) (a : Int) :
    IntKind.i64.wrap (IntKind.i64.wrap (a + max (IntKind.i64.wrap (r.low.getD k default - p.getD k default)) 0) + max (IntKind.i64.wrap (p.getD k default - r.high.getD k default)) 0) = IntKind.i64.wrap (a + distAt r p k) := by
  have e1 := g.h3 k hk
  have e2 := g.h4 k hk
  rw [wr_small (n := r.low.getD k default - p.getD k default) (by omega), wr_small (n := p.getD k default - r.high.getD k default) (by omega)]
  unfold distAt; simp only [wr_i64]; omega
theorem dist_impl {r : Rect} {p : List Int} (g : Good r p) (k : Nat) (hk : k < r.low.length) (a : Int) :
    IntKind.i64.wrap (a + max (max 0 (IntKind.i64.wrap (r.low.getD k default - p.getD k default))) (IntKind.i64.wrap (p.getD k default - r.high.getD k default))) = IntKind.i64.wrap (a + distAt r p k) := by
  have e1 := g.h3 k hk
  have e2 := g.h4 k hk
  rw [wr_small (n := r.low.getD k default - p.getD k default) (by omega), wr_small (n := p.getD k default - r.high.getD k default) (by omega)]
  rfl
theorem s_l1Max (a b : Int) : Sat Try.prog 172 [aI a, aI b] true (rI (max a b)) := by
  refine sat_walk (fn := Try.f172) rfl rfl rfl (Nat.le_of_ble_eq_true rfl) fun fr hP hN hbnd => ?_
  have hE : (envOf fr Try.prog).Ok := envOf_ok hP
  have hM := follows_of hP
  have hS : ∀ {draw ops}, statB Try.f172.ntmps draw ops = true → statB (envOf fr Try.prog).fr.N draw ops = true := fun h => by rw [envOf_fr, hN]; exact h
  repeat' (first
    | exact True.intro
    | refine ev_seq ?_
    | ((first | refine vgd_go ?_ | refine ev_region hE hM (hS (by decide +kernel)) ?_ | refine ev_if ?_ | refine end_ret hE rfl rfl ?_ | refine end_norm hE rfl rfl ?_ | refine endG_ret [] hE rfl ?_ | refine endG_norm [] hE rfl ?_ | refine vcall_A ?_); simp (maxSteps := 2000000) only [go_sem, hP, ↓reduceIte, Nat.reduceAdd, Nat.reduceMul, Nat.reduceEqDiff, Nat.reduceSub, Nat.reduceLeDiff, reduceCtorEq])
    | refine ev_skip ?_ | refine ev_block ?_ | refine ev_blk ?_ | refine ev_ret ?_ | refine ev_exit ?_ | refine evx_code_ret ?_ | refine evx_blk_ret ?_ | refine evx_lp_ret ?_
    | refine evx_code_exit ?_ | refine evx_lp_exit ?_ | refine evx_blk_hit ?_ | refine evx_blk_pass (by decide) ?_
    | refine And.intro ?_ ?_ | intro _ | decide +kernel | omega)
  all_goals simp_all
  all_goals omega
theorem s_l1Min (a b : Int) : Sat Try.prog 152 [aI a, aI b] true (rI (min a b)) := by
  refine sat_walk (fn := Try.f152) rfl rfl rfl (Nat.le_of_ble_eq_true rfl) fun fr hP hN hbnd => ?_
  have hE : (envOf fr Try.prog).Ok := envOf_ok hP
  have hM := follows_of hP
  have hS : ∀ {draw ops}, statB Try.f152.ntmps draw ops = true → statB (envOf fr Try.prog).fr.N draw ops = true := fun h => by rw [envOf_fr, hN]; exact h
  repeat' (first
    | exact True.intro
    | refine ev_seq ?_
    | ((first | refine vgd_go ?_ | refine ev_region hE hM (hS (by decide +kernel)) ?_ | refine ev_if ?_ | refine end_ret hE rfl rfl ?_ | refine end_norm hE rfl rfl ?_ | refine endG_ret [] hE rfl ?_ | refine endG_norm [] hE rfl ?_ | refine vcall_A ?_); simp (maxSteps := 2000000) only [go_sem, hP, ↓reduceIte, Nat.reduceAdd, Nat.reduceMul, Nat.reduceEqDiff, Nat.reduceSub, Nat.reduceLeDiff, reduceCtorEq])
    | refine ev_skip ?_ | refine ev_block ?_ | refine ev_blk ?_ | refine ev_ret ?_ | refine ev_exit ?_ | refine evx_code_ret ?_ | refine evx_blk_ret ?_ | refine evx_lp_ret ?_
    | refine evx_code_exit ?_ | refine evx_lp_exit ?_ | refine evx_blk_hit ?_ | refine evx_blk_pass (by decide) ?_
    | refine And.intro ?_ ?_ | intro _ | decide +kernel | omega)
  all_goals simp_all
  all_goals omega
/-- The first k elements turned. -/
def mixF (f : Nat → Int) (xs : List Int) (k : Nat) : List Int := (List.range xs.length).map fun j => if j < k then f j else xs.getD j default
@[simp] theorem mixF_length (f : Nat → Int) (xs : List Int) (k : Nat) : (mixF f xs k).length = xs.length := by simp [mixF]
@[simp] theorem mixF_zero (f : Nat → Int) (xs : List Int) : mixF f xs 0 = xs := by
  refine List.ext_getElem (by simp) fun i h1 h2 => ?_
  simp only [mixF, List.getElem_map, List.getElem_range, Nat.not_lt_zero, if_false]
  exact getD_lt h2
theorem mixF_set {f : Nat → Int} {xs : List Int} {k : Nat} (h : k < xs.length) : (mixF f xs k).set k (f k) = mixF f xs (k + 1) := by
  refine List.ext_getElem (by simp) fun i h1 h2 => ?_
  simp only [mixF, List.getElem_set, List.getElem_map, List.getElem_range]
  split
  · subst_vars; rw [if_pos (by omega)]
  · rename_i hne
    by_cases hi : i < k
    · rw [if_pos hi, if_pos (by omega)]
    · rw [if_neg hi, if_neg (by omega)]
theorem mixF_set_map {f : Nat → Int} {xs : List Int} {k : Nat} (h : k < xs.length) : ((mixF f xs k).map eI).set k (eI (f k)) = (mixF f xs (k + 1)).map eI := by rw [← mixF_set h, List.map_set]
theorem mixF_getD {f : Nat → Int} {xs : List Int} {k j : Nat} (h : j < xs.length) : (mixF f xs k).getD j default = if j < k then f j else xs.getD j default := by
  rw [getD_lt (by simpa using h)]; simp [mixF]
theorem s_CloneI (xs : List Int) (hx : xs.length ≤ 1048576) : Sat Try.prog 253 [aL xs] true (rL xs) := by
  refine sat_walk (fn := Try.f253) rfl rfl rfl (Nat.le_of_ble_eq_true rfl) fun fr hP hN hbnd => ?_
  have hE : (envOf fr Try.prog).Ok := envOf_ok hP
  have hM := follows_of hP
  have hS : ∀ {draw ops}, statB Try.f253.ntmps draw ops = true → statB (envOf fr Try.prog).fr.N draw ops = true := fun h => by rw [envOf_fr, hN]; exact h
  have hlen := bndL hbnd
  refine ev_nil (j := 0) (sz := 1) (es := xs.map eI) rfl (fun he => ?_) ?_
  · obtain rfl : xs = [] := by simpa using he
    repeat' (first
      | exact True.intro
      | refine ev_seq ?_
      | ((first | refine vgd_go ?_ | refine ev_region hE hM (hS (by decide +kernel)) ?_ | refine ev_if ?_ | refine end_ret hE rfl rfl ?_ | refine end_norm hE rfl rfl ?_ | refine endG_ret [] hE rfl ?_ | refine endG_norm [] hE rfl ?_ | refine vcall_A ?_); simp (maxSteps := 2000000) only [go_sem, hP, ↓reduceIte, Nat.reduceAdd, Nat.reduceMul, Nat.reduceEqDiff, Nat.reduceSub, Nat.reduceLeDiff, reduceCtorEq])
      | refine ev_skip ?_ | refine ev_block ?_ | refine ev_blk ?_ | refine ev_ret ?_ | refine ev_exit ?_ | refine evx_code_ret ?_ | refine evx_blk_ret ?_ | refine evx_lp_ret ?_
      | refine evx_code_exit ?_ | refine evx_lp_exit ?_ | refine evx_blk_hit ?_ | refine evx_blk_pass (by decide) ?_
      | refine And.intro ?_ ?_ | intro _ | decide +kernel | omega)
  · repeat' (first
      | exact True.intro
      | refine ev_seq ?_
      | ((first | refine vgd_go ?_ | refine ev_region hE hM (hS (by decide +kernel)) ?_ | refine ev_if ?_ | refine end_ret hE rfl rfl ?_ | refine end_norm hE rfl rfl ?_ | refine endG_ret [] hE rfl ?_ | refine endG_norm [] hE rfl ?_ | refine vcall_A ?_); simp (maxSteps := 2000000) only [go_sem, hP, ↓reduceIte, Nat.reduceAdd, Nat.reduceMul, Nat.reduceEqDiff, Nat.reduceSub, Nat.reduceLeDiff, reduceCtorEq, Bool.and_self])
      | refine ev_skip ?_ | refine ev_block ?_ | refine ev_blk ?_ | refine ev_ret ?_ | refine ev_exit ?_ | refine evx_code_ret ?_ | refine evx_blk_ret ?_ | refine evx_lp_ret ?_
      | refine evx_code_exit ?_ | refine evx_lp_exit ?_ | refine evx_blk_hit ?_ | refine evx_blk_pass (by decide) ?_
      | refine And.intro ?_ ?_ | intro _ | decide +kernel | omega)
    · simp_all
theorem s_cloned (r : Rect) (h1 : r.low.length ≤ 1048576) (h2 : r.high.length ≤ 1048576) : Sat Try.prog 186 [aR r] true (rR r) := by
  refine sat_walk (fn := Try.f186) rfl rfl rfl (Nat.le_of_ble_eq_true rfl) fun fr hP hN hbnd => ?_
  have hE : (envOf fr Try.prog).Ok := envOf_ok hP
  have hM := follows_of hP
  have hS : ∀ {draw ops}, statB Try.f186.ntmps draw ops = true → statB (envOf fr Try.prog).fr.N draw ops = true := fun h => by rw [envOf_fr, hN]; exact h
  repeat' (first
    | exact True.intro
    | refine ev_seq ?_
    | ((first | refine vgd_go ?_ | refine ev_region hE hM (hS (by decide +kernel)) ?_ | refine ev_if ?_ | refine end_ret hE rfl rfl ?_ | refine end_norm hE rfl rfl ?_ | refine endG_ret [] hE rfl ?_ | refine endG_norm [] hE rfl ?_ | refine vcallB_of hP (s_CloneI _ h1) ?_ | refine vcallB_of hP (s_CloneI _ h2) ?_ | refine vcall_A ?_); simp (maxSteps := 2000000) only [go_sem, hP, ↓reduceIte, Nat.reduceAdd, Nat.reduceMul, Nat.reduceEqDiff, Nat.reduceSub, Nat.reduceLeDiff, reduceCtorEq])
    | refine ev_skip ?_ | refine ev_block ?_ | refine ev_blk ?_ | refine ev_ret ?_ | refine ev_exit ?_ | refine evx_code_ret ?_ | refine evx_blk_ret ?_ | refine evx_lp_ret ?_
    | refine evx_code_exit ?_ | refine evx_lp_exit ?_ | refine evx_blk_hit ?_ | refine evx_blk_pass (by decide) ?_
    | refine And.intro ?_ ?_ | intro _ | decide +kernel | omega)
structure Fit (a b : Rect) : Prop where
  l : Lens a b
  n : a.low.length ≤ 3
  a1 : ∀ k, k < a.low.length → -1000 ≤ a.low.getD k default ∧ a.low.getD k default ≤ a.high.getD k default ∧ a.high.getD k default ≤ 1000
  b1 : ∀ k, k < a.low.length → -1000 ≤ b.low.getD k default ∧ b.low.getD k default ≤ b.high.getD k default ∧ b.high.getD k default ≤ 1000
theorem pf_three {xs : List Int} {d : Int} (h : pf xs d = 0) : d ≤ 3 := by
  unfold pf at h; split at h <;> simp_all [inB]
theorem rf_three {r : Rect} {d : Int} (h : rf r d = 0) : r.low.length ≤ 3 := by
  have h1 := rf_len h
  have h2 : pf r.low d = 0 := by unfold rf at h; split at h <;> simp_all
  have := pf_three h2; omega
theorem two_fit {a b : Rect} (h : two a b = 0) : Fit a b := by
  have l := two_lens h
  unfold two at h
  split at h
  · simp_all
  · rename_i h1
    have h2 := l.h2
    exact ⟨l, rf_three (by simpa using h1), fun k hk => rf_at (by simpa using h1) k hk, fun k hk => rf_at h k (by omega)⟩
def ovAt (a b : Rect) (k : Nat) : Int := max (min (a.high.getD k default) (b.high.getD k default) - max (a.low.getD k default) (b.low.getD k default)) 0
def ovTo (a b : Rect) : Nat → Int
  | 0 => 1
  | k + 1 => IntKind.i64.wrap (ovTo a b k * ovAt a b k)
@[simp] theorem ovTo_zero (a b : Rect) : ovTo a b 0 = 1 := rfl
def overlap (a b : Rect) : Int := ovTo a b a.low.length
abbrev commonTo (a b : Rect) (k : Nat) : Rect := ⟨mixF (fun j => max (a.low.getD j default) (b.low.getD j default)) a.low k, mixF (fun j => min (a.high.getD j default) (b.high.getD j default)) a.high k⟩
def common (a b : Rect) : Rect := commonTo a b a.low.length
theorem area_common {a b : Rect} (f : Fit a b) (h : meets a b = true) : area (common a b) = overlap a b := by
  have hl : (common a b).low.length = a.low.length := by simp [common]
  have hh : a.high.length = a.low.length := f.l.h1
  unfold area overlap
  rw [hl]
  have key : ∀ k, k ≤ a.low.length → areaTo (common a b) k = ovTo a b k := by
    intro k
    induction k with
    | zero => intro _; rfl
    | succ k ih =>
      intro hk
      have e1 := f.a1 k (by omega)
      have e2 := f.b1 k (by omega)
      have e3 := allLt_iff.mp h k (by omega)
      simp only [meetsAt, Bool.not_eq_true', Bool.or_eq_false_iff, decide_eq_false_iff_not] at e3
      unfold areaTo ovTo
      rw [ih (by omega)]
      simp only [common]
      rw [mixF_getD (by omega), mixF_getD (by omega), if_pos (by omega), if_pos (by omega), wr_small (n := min (a.high.getD k default) (b.high.getD k default) - max (a.low.getD k default) (b.low.getD k default)) (by omega)]
      unfold ovAt
      rw [show max (min (a.high.getD k default) (b.high.getD k default) - max (a.low.getD k default) (b.low.getD k default)) 0 = min (a.high.getD k default) (b.high.getD k default) - max (a.low.getD k default) (b.low.getD k default) by omega]
  exact key _ (Nat.le_refl _)
theorem overlap_apart {a b : Rect} (f : Fit a b) (h : meets a b = false) : overlap a b = 0 := by
  have : ∃ k, k < a.low.length ∧ meetsAt a b k = false := by
    apply Classical.byContradiction
    intro hn
    have : meets a b = true := allLt_iff.mpr fun j hj => by
      cases hm : meetsAt a b j with
      | true => rfl
      | false => exact absurd ⟨j, hj, hm⟩ hn
    simp_all
  obtain ⟨k, hk, hm⟩ := this
  have e1 := f.a1 k hk
  have e2 := f.b1 k hk
  have h0 : ovAt a b k = 0 := by
    simp only [meetsAt, Bool.not_eq_false', Bool.or_eq_true, decide_eq_true_eq] at hm
    unfold ovAt; omega
  have key : ∀ n, k < n → ovTo a b n = 0 := by
    intro n
    induction n with
    | zero => intro h; omega
    | succ n ih =>
      intro hn
      unfold ovTo
      by_cases he : k = n
      · subst he; rw [h0, Int.mul_zero]; rfl
      · rw [ih (by omega), Int.zero_mul]; rfl
  exact key _ hk
def un (a b : Rect) : Rect := ⟨(List.range a.low.length).map fun j => min (a.low.getD j default) (b.low.getD j default), (List.range a.low.length).map fun j => max (a.high.getD j default) (b.high.getD j default)⟩
theorem un_len (a b : Rect) : (un a b).high.length = (un a b).low.length := by simp [un]
theorem mixF_full (f : Nat → Int) (xs : List Int) : mixF f xs xs.length = (List.range xs.length).map f := by
  refine List.ext_getElem (by simp) fun i h1 h2 => ?_
  simp only [mixF, List.getElem_map, List.getElem_range]
  rw [if_pos (by simpa using h1)]
theorem s_union (a b : Rect) (h : Lens a b) (hx : a.low.length ≤ 1048576) : Sat Try.prog 147 [aR a, aR b] true (rR (un a b)) := by
  refine sat_walk (fn := Try.f147) rfl rfl rfl (Nat.le_of_ble_eq_true rfl) fun fr hP hN hbnd => ?_
  have hE : (envOf fr Try.prog).Ok := envOf_ok hP
  have hM := follows_of hP
  have hS : ∀ {draw ops}, statB Try.f147.ntmps draw ops = true → statB (envOf fr Try.prog).fr.N draw ops = true := fun h => by rw [envOf_fr, hN]; exact h
  have hl := bndR hbnd
  have e1 := h.h1
  have e2 := h.h2
  have e3 := h.h3
  repeat' (first
    | exact True.intro
    | refine ev_seq ?_
    | ((first | refine vgd_go ?_ | refine ev_region hE hM (hS (by decide +kernel)) ?_ | refine ev_if ?_ | refine end_ret hE rfl rfl ?_ | refine end_norm hE rfl rfl ?_ | refine endG_ret [] hE rfl ?_ | refine endG_norm [] hE rfl ?_ | refine vcallB_of hP (s_cloned a hx (by omega)) ?_ | refine vcall_A ?_); simp (maxSteps := 2000000) only [go_sem, hP, ↓reduceIte, Nat.reduceAdd, Nat.reduceMul, Nat.reduceEqDiff, Nat.reduceSub, Nat.reduceLeDiff, reduceCtorEq])
    | refine ev_skip ?_ | refine ev_block ?_ | refine ev_blk ?_ | refine ev_ret ?_ | refine ev_exit ?_ | refine evx_code_ret ?_ | refine evx_blk_ret ?_ | refine evx_lp_ret ?_
    | refine evx_code_exit ?_ | refine evx_lp_exit ?_ | refine evx_blk_hit ?_ | refine evx_blk_pass (by decide) ?_
    | refine And.intro ?_ ?_ | intro _ | decide +kernel | omega)
  refine ev_loop (ι := Nat) (fun k => [(2, .ptr 0 0), (3, .ptr 8 0), (4, .ptr 16 0), (5, .ptr 4112 0), (11, .c (.int .i64 a.low.length)), (12, .c (.int .i64 k))]) (fun k => [(0, .box [.c (sI a.low), .c (sI a.high)]), (8, .box [.c (sI b.low), .c (sI b.high)]), (16, .box [.nilS, .nilS]), (4112, .box [.ref 4104, .ref 1052680]), (4104, .arr true 2 1 ((mixF (fun j => min (a.low.getD j default) (b.low.getD j default)) a.low k).map eI)), (1052680, .arr true 2 1 ((mixF (fun j => max (a.high.getD j default) (b.high.getD j default)) a.high k).map eI))]) (fun _ => []) (fun k => k ≤ a.low.length) (fun k => a.low.length - k) 0 [] (by simp [allLt_zero] <;> omega) (by simp only [go_sem, hP, ↓reduceIte, Nat.reduceAdd, Nat.reduceMul, Nat.reduceEqDiff, Nat.reduceSub, Nat.reduceLeDiff, reduceCtorEq]; simp) ?_
  intro k hk
  repeat' (first
    | exact True.intro
    | refine ev_seq ?_
    | ((first | refine vgd_go ?_ | refine ev_region hE hM (hS (by decide +kernel)) ?_ | refine ev_if ?_ | refine end_ret hE rfl rfl ?_ | refine end_norm hE rfl rfl ?_ | refine endG_ret [] hE rfl ?_ | refine endG_norm [] hE rfl ?_ | refine vcall_A ?_); simp (maxSteps := 2000000) only [go_sem, hP, ↓reduceIte, Nat.reduceAdd, Nat.reduceMul, Nat.reduceEqDiff, Nat.reduceSub, Nat.reduceLeDiff, reduceCtorEq, mixF_length])
    | refine ev_skip ?_ | refine ev_block ?_ | refine ev_blk ?_ | refine ev_ret ?_ | refine ev_exit ?_ | refine evx_code_ret ?_ | refine evx_blk_ret ?_ | refine evx_lp_ret ?_
    | refine evx_code_exit ?_ | refine evx_lp_exit ?_ | refine evx_blk_hit ?_ | refine evx_blk_pass (by decide) ?_
    | refine And.intro ?_ ?_ | intro _ | decide +kernel | omega)
  · exact ev_lp (k + 1) [] (by omega) (by omega) (by simp only [go_sem, hP, ↓reduceIte, Nat.reduceAdd, Nat.reduceMul, Nat.reduceEqDiff, Nat.reduceSub, Nat.reduceLeDiff, reduceCtorEq]; simp; exact ⟨wrap_nat (by omega) hl.1, mixF_set_map (f := fun j => min (a.low.getD j default) (b.low.getD j default)) (by omega), mixF_set_map (f := fun j => max (a.high.getD j default) (b.high.getD j default)) (by omega)⟩)
  · have hke : k = a.low.length := by omega
    subst hke
    rw [mixF_full]; rfl
  · have hke : k = a.high.length := by omega
    subst hke
    rw [mixF_full]; simp only [un, e1]
theorem s_l1Union (a b : Rect) (h : Lens a b) (hx : a.low.length ≤ 1048576) : Sat Try.prog 154 [pR a, pR b] true (rR (un a b)) := by
  refine sat_walk (fn := Try.f154) rfl rfl rfl (Nat.le_of_ble_eq_true rfl) fun fr hP hN hbnd => ?_
  have hE : (envOf fr Try.prog).Ok := envOf_ok hP
  have hM := follows_of hP
  have hS : ∀ {draw ops}, statB Try.f154.ntmps draw ops = true → statB (envOf fr Try.prog).fr.N draw ops = true := fun h => by rw [envOf_fr, hN]; exact h
  have hl := bndPR hbnd
  have e1 := h.h1
  have e2 := h.h2
  have e3 := h.h3
  repeat' (first
    | exact True.intro
    | refine ev_seq ?_
    | ((first | refine vgd_go ?_ | refine ev_region hE hM (hS (by decide +kernel)) ?_ | refine ev_if ?_ | refine end_ret hE rfl rfl ?_ | refine end_norm hE rfl rfl ?_ | refine endG_ret [] hE rfl ?_ | refine endG_norm [] hE rfl ?_ | refine vcall_A ?_); simp (maxSteps := 2000000) only [go_sem, hP, ↓reduceIte, Nat.reduceAdd, Nat.reduceMul, Nat.reduceEqDiff, Nat.reduceSub, Nat.reduceLeDiff, reduceCtorEq])
    | refine ev_skip ?_ | refine ev_block ?_ | refine ev_blk ?_ | refine ev_ret ?_ | refine ev_exit ?_ | refine evx_code_ret ?_ | refine evx_blk_ret ?_ | refine evx_lp_ret ?_
    | refine evx_code_exit ?_ | refine evx_lp_exit ?_ | refine evx_blk_hit ?_ | refine evx_blk_pass (by decide) ?_
    | refine And.intro ?_ ?_ | intro _ | decide +kernel | omega)
  refine ev_loop (ι := Nat) (fun k => [(0, .pv (cR a)), (1, .pv (cR b)), (4, .ptr 0 0), (5, .ptr 4104 0), (6, .c (.int .i64 k))]) (fun k => [(0, .box [.nilS, .nilS]), (4104, .box [.ref 100000, .ref 100001]), (100000, .arr true 2 1 (((List.range k).map fun j => min (a.low.getD j default) (b.low.getD j default)).map eI)), (100001, .arr true 2 1 (((List.range k).map fun j => max (a.high.getD j default) (b.high.getD j default)).map eI))]) (fun _ => []) (fun k => k ≤ a.low.length) (fun k => a.low.length - k) 0 [(100000, none), (100001, none)] (by omega) (by simp only [go_sem, hP, ↓reduceIte, Nat.reduceAdd, Nat.reduceMul, Nat.reduceEqDiff, Nat.reduceSub, Nat.reduceLeDiff, reduceCtorEq]; simp) ?_
  intro k hk
  repeat' (first
    | exact True.intro
    | refine ev_seq ?_
    | ((first | refine vgd_go ?_ | refine ev_region hE hM (hS (by decide +kernel)) ?_ | refine ev_if ?_ | refine end_ret hE rfl rfl ?_ | refine end_norm hE rfl rfl ?_ | refine endG_ret [] hE rfl ?_ | refine endG_norm [] hE rfl ?_ | refine vcallB_of hP (s_l1Min _ _) ?_ | refine vcallB_of hP (s_l1Max _ _) ?_ | refine vcall_A ?_); simp (maxSteps := 2000000) only [go_sem, hP, ↓reduceIte, Nat.reduceAdd, Nat.reduceMul, Nat.reduceEqDiff, Nat.reduceSub, Nat.reduceLeDiff, reduceCtorEq, List.length_range, Bool.and_self])
    | refine ev_skip ?_ | refine ev_block ?_ | refine ev_blk ?_ | refine ev_ret ?_ | refine ev_exit ?_ | refine evx_code_ret ?_ | refine evx_blk_ret ?_ | refine evx_lp_ret ?_
    | refine evx_code_exit ?_ | refine evx_lp_exit ?_ | refine evx_blk_hit ?_ | refine evx_blk_pass (by decide) ?_
    | refine And.intro ?_ ?_ | intro _ | decide +kernel | omega)
  all_goals first
    | (simp_all; done)
    | exact ev_lp (k + 1) [(100000, some 20624), (100001, some 24720)] (by omega) (by omega) (by simp only [go_sem, hP, ↓reduceIte, Nat.reduceAdd, Nat.reduceMul, Nat.reduceEqDiff, Nat.reduceSub, Nat.reduceLeDiff, reduceCtorEq]; simp [List.range_succ]; exact ⟨wrap_nat (by omega) hl.1, rfl, rfl⟩)
    | (have hke : k = a.low.length := by omega
       subst hke; rfl)
def risesI (xs : List Int) (j : Nat) : Bool := decide (j = 0) || decide (xs.getD (j - 1) default < xs.getD j default)
def wf (xs : List Int) : Int := if (4 : Int) < xs.length then 2 else if xs.all (inB · 0 3) = false then 3 else if allLt xs.length (risesI xs) then 0 else 1
theorem wf_eq {xs : List Int} (h4 : ¬ (4 : Int) < xs.length) (ha : xs.all (inB · 0 3) = true) : wf xs = if allLt xs.length (risesI xs) then 0 else 1 := by
  unfold wf; rw [if_neg h4, if_neg (by rw [ha]; decide)]
theorem wf_3 {xs : List Int} (h4 : ¬ (4 : Int) < xs.length) (ha : xs.all (inB · 0 3) = false) : wf xs = 3 := by
  unfold wf; rw [if_neg h4, if_pos ha]
theorem any_nall {xs : List Int} {p : Int → Bool} : xs.any (fun n => !p n) = !xs.all p := by
  induction xs with
  | nil => rfl
  | cons x xs ih => simp [ih]
/-- Numbers that rise from one on. -/
def markedI (k : Int) (n : Nat) : List Int := (List.range n).map fun (j : Nat) => k + j
@[simp] theorem markedI_length (k : Int) (n : Nat) : (markedI k n).length = n := by simp [markedI]
theorem markedI_getD {k : Int} {n j : Nat} (h : j < n) : (markedI k n).getD j default = k + j := by
  rw [getD_lt (by simpa using h)]; simp [markedI]
/-- A row of numbers that is given: the key's name is none of the walk's own (those are multiples of 8). -/
@[go_sem] abbrev gI (κ : Nat) (xs : List Int) : Nat × Blk := (κ, .arr true 2 1 (xs.map eI))
@[go_sem] abbrev iT (n : Int) : T := .c (.int .i64 n)
/-- How far marks may go. -/
abbrev mMax : Int := 1000000000000
/-- A box, if there is no code. -/
def valR (c : Int) (r : Rect) : Rect := if c = 0 then r else ⟨[], []⟩
@[go_sem] abbrev aRR (c : Int) (r : Rect) : Arg := .d (true, [.int .i64 c, sI r.low, sI r.high])
@[go_sem] abbrev rRR (c : Int) (r : Rect) : List Dat := [(true, [.int .i64 c, oI r.low, oI r.high])]
@[go_sem] abbrev tRR (c : Int) (a b : Nat) : T := .agg [iT c, .ref a, .ref b]
theorem s_implUnionOf (a b : Rect) : Sat Try.prog 47 [aR a, aR b] true (rRR (two a b) (valR (two a b) (un a b))) := by
  refine sat_walk (fn := Try.f47) rfl rfl rfl (Nat.le_of_ble_eq_true rfl) fun fr hP hN hbnd => ?_
  have hE : (envOf fr Try.prog).Ok := envOf_ok hP
  have hM := follows_of hP
  have hS : ∀ {draw ops}, statB Try.f47.ntmps draw ops = true → statB (envOf fr Try.prog).fr.N draw ops = true := fun h => by rw [envOf_fr, hN]; exact h
  repeat' (first
    | exact True.intro
    | refine ev_seq ?_
    | ((first | refine vgd_go ?_ | refine ev_region hE hM (hS (by decide +kernel)) ?_ | refine ev_if ?_ | refine end_ret hE rfl rfl ?_ | refine end_norm hE rfl rfl ?_ | refine endG_ret [] hE rfl ?_ | refine endG_norm [] hE rfl ?_ | refine vcallB_of hP (s_twoFault a b) ?_ | refine vcallB_of hP (s_union a b (two_lens (by simp_all)) (by have := (two_fit (a := a) (b := b) (by simp_all)).n; omega)) ?_ | refine vcall_A ?_); simp (maxSteps := 2000000) only [go_sem, hP, ↓reduceIte, Nat.reduceAdd, Nat.reduceMul, Nat.reduceEqDiff, Nat.reduceSub, Nat.reduceLeDiff, reduceCtorEq])
    | refine ev_skip ?_ | refine ev_block ?_ | refine ev_blk ?_ | refine ev_ret ?_ | refine ev_exit ?_ | refine evx_code_ret ?_ | refine evx_blk_ret ?_ | refine evx_lp_ret ?_
    | refine evx_code_exit ?_ | refine evx_lp_exit ?_ | refine evx_blk_hit ?_ | refine evx_blk_pass (by decide) ?_
    | refine And.intro ?_ ?_ | intro _ | decide +kernel | omega)
  all_goals simp_all [valR]
theorem s_l1Ints (xs : List Int) (hx : xs.length ≤ 1048576) : Sat Try.prog 247 [aL xs] true (rL xs) := by
  refine sat_walk (fn := Try.f247) rfl rfl rfl (Nat.le_of_ble_eq_true rfl) fun fr hP hN hbnd => ?_
  have hE : (envOf fr Try.prog).Ok := envOf_ok hP
  have hM := follows_of hP
  have hS : ∀ {draw ops}, statB Try.f247.ntmps draw ops = true → statB (envOf fr Try.prog).fr.N draw ops = true := fun h => by rw [envOf_fr, hN]; exact h
  have hlen := bndL hbnd
  repeat' (first
    | exact True.intro
    | refine ev_seq ?_
    | ((first | refine vgd_go ?_ | refine ev_region hE hM (hS (by decide +kernel)) ?_ | refine ev_if ?_ | refine end_ret hE rfl rfl ?_ | refine end_norm hE rfl rfl ?_ | refine endG_ret [] hE rfl ?_ | refine endG_norm [] hE rfl ?_ | refine vcall_A ?_); simp (maxSteps := 2000000) only [go_sem, hP, ↓reduceIte, Nat.reduceAdd, Nat.reduceMul, Nat.reduceEqDiff, Nat.reduceSub, Nat.reduceLeDiff, reduceCtorEq, Bool.and_self])
    | refine ev_skip ?_ | refine ev_block ?_ | refine ev_blk ?_ | refine ev_ret ?_ | refine ev_exit ?_ | refine evx_code_ret ?_ | refine evx_blk_ret ?_ | refine evx_lp_ret ?_
    | refine evx_code_exit ?_ | refine evx_lp_exit ?_ | refine evx_blk_hit ?_ | refine evx_blk_pass (by decide) ?_
    | refine And.intro ?_ ?_ | intro _ | decide +kernel | omega)
  all_goals (simp_all; done)
theorem s_l1Copy (r : Rect) (h1 : r.low.length ≤ 1048576) (h2 : r.high.length ≤ 1048576) : Sat Try.prog 151 [pR r] true (rR r) := by
  refine sat_walk (fn := Try.f151) rfl rfl rfl (Nat.le_of_ble_eq_true rfl) fun fr hP hN hbnd => ?_
  have hE : (envOf fr Try.prog).Ok := envOf_ok hP
  have hM := follows_of hP
  have hS : ∀ {draw ops}, statB Try.f151.ntmps draw ops = true → statB (envOf fr Try.prog).fr.N draw ops = true := fun h => by rw [envOf_fr, hN]; exact h
  repeat' (first
    | exact True.intro
    | refine ev_seq ?_
    | ((first | refine vgd_go ?_ | refine ev_region hE hM (hS (by decide +kernel)) ?_ | refine ev_if ?_ | refine end_ret hE rfl rfl ?_ | refine end_norm hE rfl rfl ?_ | refine endG_ret [] hE rfl ?_ | refine endG_norm [] hE rfl ?_ | refine vcallB_of hP (s_l1Ints _ h1) ?_ | refine vcallB_of hP (s_l1Ints _ h2) ?_ | refine vcall_A ?_); simp (maxSteps := 2000000) only [go_sem, hP, ↓reduceIte, Nat.reduceAdd, Nat.reduceMul, Nat.reduceEqDiff, Nat.reduceSub, Nat.reduceLeDiff, reduceCtorEq])
    | refine ev_skip ?_ | refine ev_block ?_ | refine ev_blk ?_ | refine ev_ret ?_ | refine ev_exit ?_ | refine evx_code_ret ?_ | refine evx_blk_ret ?_ | refine evx_lp_ret ?_
    | refine evx_code_exit ?_ | refine evx_lp_exit ?_ | refine evx_blk_hit ?_ | refine evx_blk_pass (by decide) ?_
    | refine And.intro ?_ ?_ | intro _ | decide +kernel | omega)
@[go_sem] abbrev eY (b : Int) : List C := [.int .u8 b]
@[go_sem] abbrev sY (xs : List Int) : C := .sl none 1 (xs.map eY)
@[go_sem] abbrev aY (xs : List Int) : Arg := .d (false, [sY xs])
/-- The source of a code's bytes. -/
@[go_sem] abbrev bSrc (c : List Int) (a : Int) : Blk := .box [.c (sY c), iT a]
def codeOk (c : List Int) : Prop := c.length ≤ 1048576 ∧ ∀ b ∈ c, 0 ≤ b ∧ b < 256
def nv (c : List Int) (a n : Int) : Int :=
  if n > 200 then (c.getD (a % c.length).toNat default + a / c.length * 37) * 251 + c.getD ((a + 1) % c.length).toNat default * 13 + a
  else c.getD (a % c.length).toNat default + a / c.length * 37
def nx (c : List Int) (a n : Int) : Int := if c.length = 0 then (a * 7) % n else nv c a n % n
theorem byte_get {c : List Int} (hc : codeOk c) (i : Nat) : 0 ≤ c.getD i default ∧ c.getD i default < 256 := by
  rw [List.getD_eq_getElem?_getD]
  rcases h : c[i]? with _ | x
  · exact ⟨by decide, by decide⟩
  · exact hc.2 x (List.mem_of_getElem? h)
theorem nx_in {c : List Int} {a n : Int} (hn : 1 ≤ n) : 0 ≤ nx c a n ∧ nx c a n < n := by
  unfold nx
  split <;> exact ⟨Int.emod_nonneg _ (by omega), Int.emod_lt_of_pos _ (by omega)⟩
theorem tmod_pos {a b : Int} (h : 0 ≤ a) : a.tmod b = a % b := Int.tmod_eq_emod_of_nonneg h
theorem tdiv_pos {a b : Int} (h : 0 ≤ a) : a.tdiv b = a / b := Int.tdiv_eq_ediv_of_nonneg h
section
variable {c : Cx} {i : Nat} {dst : Option Nat} {rest : List Oper} {acc : List (List Nat × List Nat)} {st : St} {f κ : Nat} {P : Program}
theorem vcallG_at {caps args ts : List T} {ats : List Nat} {hc' : List (Nat × Blk)} {rt : T} {b : Blk} (K : Nat) (ks : List Nat) (hst : st.h K = some b) (hP : c.E.fr.P = P) (hs : SatG P f false ts [(1, b)] rt hc') (h : vcallG c i dst rest acc st caps args ts [(1, b)] rt hc' P (rhoOf [(1, K)] κ) ks) :
    vcall c i dst rest acc st f caps args ats κ := vcallG_of [(1, K)] ks hP hs h
end
theorem s_l1Next (c : List Int) (a n : Int) (hc : codeOk c) (h0 : 0 ≤ a) (h1 : a ≤ 1073741824) (h2 : 1 ≤ n) (h3 : n ≤ 60000) : SatG Try.prog 184 false [.ptr 1 0, iT n] [(1, bSrc c a)] (iT (nx c a n)) [(1, bSrc c (a + 1))] := by
  refine satG_walk (fn := Try.f184) rfl rfl rfl (Nat.le_of_ble_eq_true rfl) (by simp) fun fr hP hN hdp hb1 hb2 => ?_
  have hE : (envOf fr Try.prog).Ok := envOf_ok hP
  have hM := follows_of hP
  have hS : ∀ {draw ops}, statB Try.f184.ntmps draw ops = true → statB (envOf fr Try.prog).fr.N draw ops = true := fun h => by rw [envOf_fr, hN]; exact h
  have w1 : IntKind.i64.wrap (a + 1) = a + 1 := i64_in _ (by omega)
  have w2 : IntKind.i64.wrap (a + 1 - 1) = a := by rw [i64_in _ (by omega)]; omega
  have n0 : (n = 0) = False := eq_false (by omega)
  have n1 : decide (n < 1) = false := by simp; omega
  have n6 : decide (60000 < n) = false := by simp; omega
  by_cases hz : c.length = 0
  · have w3 : IntKind.i64.wrap (a * 7) = a * 7 := i64_in _ (by omega)
    have e : nx c a n = (a * 7).tmod n := by unfold nx; rw [if_pos hz, tmod_pos (by omega)]
    rw [e]
    repeat' (first
      | exact True.intro
      | refine ev_seq ?_
      | ((first | refine vgd_go ?_ | refine ev_region hE hM (hS (by decide +kernel)) ?_ | refine ev_if ?_ | refine end_ret hE rfl rfl ?_ | refine end_norm hE rfl rfl ?_ | refine endG_ret [] hE rfl ?_ | refine endG_norm [] hE rfl ?_ | refine vcall_A ?_); simp (maxSteps := 2000000) only [go_sem, hP, ↓reduceIte, Nat.reduceAdd, Nat.reduceMul, Nat.reduceEqDiff, Nat.reduceSub, Nat.reduceLeDiff, reduceCtorEq, w1, w2, w3, hz, n0, n1])
      | refine ev_skip ?_ | refine ev_block ?_ | refine ev_blk ?_ | refine ev_ret ?_ | refine ev_exit ?_ | refine evx_code_ret ?_ | refine evx_blk_ret ?_ | refine evx_lp_ret ?_
      | refine evx_code_exit ?_ | refine evx_lp_exit ?_ | refine evx_blk_hit ?_ | refine evx_blk_pass (by decide) ?_
      | refine And.intro ?_ ?_ | intro _ | decide +kernel | omega)
    all_goals first | (exfalso; omega) | (simp_all; done)
  · have k0 : ((c.length : Int) = 0) = False := eq_false (by omega)
    have k1 : ((c.length : Int) == 0) = false := beq_eq_false_iff_ne.2 (by omega)
    have hk := hc.1
    have e1 := tmod_pos (b := c.length) h0
    have e2 := tdiv_pos (b := c.length) h0
    have e3 := tmod_pos (a := a + 1) (b := c.length) (by omega)
    have m1 := Int.emod_nonneg a (b := c.length) (by omega)
    have m2 := Int.emod_lt_of_pos a (b := c.length) (by omega)
    have m3 := Int.emod_nonneg (a + 1) (b := c.length) (by omega)
    have m4 := Int.emod_lt_of_pos (a + 1) (b := c.length) (by omega)
    have d1 : 0 ≤ a / c.length := Int.ediv_nonneg h0 (by omega)
    have d2 : a / c.length ≤ a := Int.ediv_le_self _ h0
    obtain ⟨b1, b2⟩ := byte_get hc (a % c.length).toNat
    obtain ⟨b3, b4⟩ := byte_get hc ((a + 1) % c.length).toNat
    have ev : nx c a n = (nv c a n).tmod n := by unfold nx; rw [if_neg hz, tmod_pos]; unfold nv; split <;> omega
    rw [ev]
    unfold nv
    generalize hx : c.getD (a % c.length).toNat default = x at *
    generalize hy : c.getD ((a + 1) % c.length).toNat default = y at *
    generalize hq : a / c.length = q at *
    generalize hr : a % c.length = r at *
    generalize hs : (a + 1) % c.length = s at *
    have w3 : IntKind.i64.wrap q = q := i64_in _ (by omega)
    have w4 : IntKind.i64.wrap (q * 37) = q * 37 := i64_in _ (by omega)
    have w5 : IntKind.i64.wrap x = x := i64_in _ (by omega)
    have w6 : IntKind.i64.wrap (x + q * 37) = x + q * 37 := i64_in _ (by omega)
    have w7 : IntKind.i64.wrap ((x + q * 37) * 251) = (x + q * 37) * 251 := i64_in _ (by omega)
    have w8 : IntKind.i64.wrap y = y := i64_in _ (by omega)
    have w9 : IntKind.i64.wrap (y * 13) = y * 13 := i64_in _ (by omega)
    have wa : IntKind.i64.wrap ((x + q * 37) * 251 + y * 13) = (x + q * 37) * 251 + y * 13 := i64_in _ (by omega)
    have wb : IntKind.i64.wrap ((x + q * 37) * 251 + y * 13 + a) = (x + q * 37) * 251 + y * 13 + a := i64_in _ (by omega)
    by_cases h2 : n > 200
    · rw [if_pos h2]
      have n2 : decide (200 < n) = true := by simp; omega
      repeat' (first
        | exact True.intro
        | refine ev_seq ?_
        | ((first | refine vgd_go ?_ | refine ev_region hE hM (hS (by decide +kernel)) ?_ | refine ev_if ?_ | refine end_ret hE rfl rfl ?_ | refine end_norm hE rfl rfl ?_ | refine endG_ret [] hE rfl ?_ | refine endG_norm [] hE rfl ?_ | refine vcall_A ?_); simp (maxSteps := 2000000) only [go_sem, hP, ↓reduceIte, Nat.reduceAdd, Nat.reduceMul, Nat.reduceEqDiff, Nat.reduceSub, Nat.reduceLeDiff, reduceCtorEq, w1, w2, w3, w4, w5, w6, w7, w8, w9, wa, wb, e1, e2, e3, hx, hy, hq, hr, hs, k0, k1, n0, n1, n2, n6])
        | refine ev_skip ?_ | refine ev_block ?_ | refine ev_blk ?_ | refine ev_ret ?_ | refine ev_exit ?_ | refine evx_code_ret ?_ | refine evx_blk_ret ?_ | refine evx_lp_ret ?_
        | refine evx_code_exit ?_ | refine evx_lp_exit ?_ | refine evx_blk_hit ?_ | refine evx_blk_pass (by decide) ?_
        | refine And.intro ?_ ?_ | intro _ | decide +kernel | omega)
      all_goals first | (exfalso; omega) | omega | (simp_all; done)
    · rw [if_neg h2]
      have n2 : decide (200 < n) = false := by simp; omega
      repeat' (first
        | exact True.intro
        | refine ev_seq ?_
        | ((first | refine vgd_go ?_ | refine ev_region hE hM (hS (by decide +kernel)) ?_ | refine ev_if ?_ | refine end_ret hE rfl rfl ?_ | refine end_norm hE rfl rfl ?_ | refine endG_ret [] hE rfl ?_ | refine endG_norm [] hE rfl ?_ | refine vcall_A ?_); simp (maxSteps := 2000000) only [go_sem, hP, ↓reduceIte, Nat.reduceAdd, Nat.reduceMul, Nat.reduceEqDiff, Nat.reduceSub, Nat.reduceLeDiff, reduceCtorEq, w1, w2, w3, w4, w5, w6, e1, e2, hx, hq, hr, k0, k1, n0, n1, n2, n6])
        | refine ev_skip ?_ | refine ev_block ?_ | refine ev_blk ?_ | refine ev_ret ?_ | refine ev_exit ?_ | refine evx_code_ret ?_ | refine evx_blk_ret ?_ | refine evx_lp_ret ?_
        | refine evx_code_exit ?_ | refine evx_lp_exit ?_ | refine evx_blk_hit ?_ | refine evx_blk_pass (by decide) ?_
        | refine And.intro ?_ ?_ | intro _ | decide +kernel | omega)
      all_goals first | (exfalso; omega) | omega | (simp_all; done)
def pk (c : List Int) (a : Int) (xs : List Int) : Int := xs.getD (nx c a xs.length).toNat default
def coord (c : List Int) (a : Int) : Int := pk c (a + 4) [nx c a 20, nx c (a + 1) 20, nx c (a + 2) 20 - 10, nx c (a + 3) 300 * 3 - 400, 1000, -1000]
theorem pk_mem {c : List Int} {a : Int} {xs : List Int} (h : xs ≠ []) : pk c a xs ∈ xs := by
  have hl : 1 ≤ xs.length := List.length_pos_iff.2 h
  obtain ⟨p1, p2⟩ := nx_in (c := c) (a := a) (n := xs.length) (by omega)
  unfold pk
  rw [List.getD_eq_getElem?_getD, List.getElem?_eq_getElem (by omega)]
  exact List.getElem_mem _
theorem coord_in (c : List Int) (a : Int) : -1000 ≤ coord c a ∧ coord c a ≤ 1000 := by
  have h := pk_mem (c := c) (a := a + 4) (xs := [nx c a 20, nx c (a + 1) 20, nx c (a + 2) 20 - 10, nx c (a + 3) 300 * 3 - 400, 1000, -1000]) (by simp)
  have e0 := nx_in (c := c) (a := a) (n := 20) (by omega)
  have e1 := nx_in (c := c) (a := a + 1) (n := 20) (by omega)
  have e2 := nx_in (c := c) (a := a + 2) (n := 20) (by omega)
  have e3 := nx_in (c := c) (a := a + 3) (n := 300) (by omega)
  simp only [List.mem_cons, List.not_mem_nil, or_false] at h
  unfold coord
  rcases h with h | h | h | h | h | h <;> rw [h] <;> omega
def pointV (c : List Int) (a : Int) (d : Nat) : List Int := (List.range d).map fun (i : Nat) => coord c (a + 5 * i)
def rectLo (c : List Int) (a : Int) (d : Nat) : List Int := (List.range d).map fun (i : Nat) => coord c (a + 6 * i)
def rectHi (c : List Int) (a : Int) (d : Nat) : List Int := (List.range d).map fun (i : Nat) => min (coord c (a + 6 * i) + pk c (a + 6 * i + 5) [0, 1, 3, 8, 30]) 1000
def rectV (c : List Int) (a : Int) (d : Nat) : Rect := ⟨rectLo c a d, rectHi c a d⟩
theorem pk5_in (c : List Int) (a : Int) : 0 ≤ pk c a [0, 1, 3, 8, 30] ∧ pk c a [0, 1, 3, 8, 30] ≤ 30 := by
  have h := pk_mem (c := c) (a := a) (xs := [0, 1, 3, 8, 30]) (by simp)
  simp only [List.mem_cons, List.not_mem_nil, or_false] at h
  omega
theorem dims_in (c : List Int) (a : Int) : pk c a [2, 2, 3] = 2 ∨ pk c a [2, 2, 3] = 3 := by
  have h := pk_mem (c := c) (a := a) (xs := [2, 2, 3]) (by simp)
  simp only [List.mem_cons, List.not_mem_nil, or_false] at h
  omega
theorem rectV_hi (c : List Int) (a : Int) (d i : Nat) (h : i < d) : -1000 ≤ (rectHi c a d).getD i default ∧ (rectHi c a d).getD i default ≤ 1000 := by
  unfold rectHi
  rw [getD_lt (by simpa using h)]
  simp only [List.getElem_map, List.getElem_range]
  have h1 := coord_in c (a + 6 * i)
  have h2 := pk5_in c (a + 6 * i + 5)
  omega
def bentV (c : List Int) (a : Int) (d : Nat) : Rect :=
  if nx c (a + 6 * d) 14 = 0 then ⟨(rectLo c a d).set 0 (pk c (a + 6 * d + 1) [(rectHi c a d).getD 0 default + 1, -1001, 1001]), rectHi c a d⟩
  else if nx c (a + 6 * d) 14 = 1 then ⟨rectLo c a d, (rectHi c a d).drop 1⟩
  else if nx c (a + 6 * d) 14 = 2 then ⟨rectLo c a d ++ [0], rectHi c a d⟩
  else if nx c (a + 6 * d) 14 = 3 then ⟨rectLo c a d, (rectHi c a d).set 1 (pk c (a + 6 * d + 1) [1000, 1001, -1000])⟩
  else rectV c a d
def bentA (c : List Int) (a : Int) (d : Nat) : Int := if nx c (a + 6 * d) 14 = 0 ∨ nx c (a + 6 * d) 14 = 3 then a + 6 * d + 2 else a + 6 * d + 1
theorem bentA_in (c : List Int) (a : Int) (d : Nat) : a ≤ bentA c a d ∧ bentA c a d ≤ a + 6 * d + 2 := by unfold bentA; split <;> omega
theorem s_l1Chance (c : List Int) (a n : Int) (hc : codeOk c) (h0 : 0 ≤ a) (h1 : a ≤ 1073741824) (h2 : 1 ≤ n) (h3 : n ≤ 60000) : SatG Try.prog 139 false [.ptr 1 0, iT n] [(1, bSrc c a)] (.c (.bool (nx c a n == 0))) [(1, bSrc c (a + 1))] := by
  refine satG_walk (fn := Try.f139) rfl rfl rfl (Nat.le_of_ble_eq_true rfl) (by simp) fun fr hP hN hdp hb1 hb2 => ?_
  have hE : (envOf fr Try.prog).Ok := envOf_ok hP
  have hM := follows_of hP
  have hS : ∀ {draw ops}, statB Try.f139.ntmps draw ops = true → statB (envOf fr Try.prog).fr.N draw ops = true := fun h => by rw [envOf_fr, hN]; exact h
  repeat' (first
    | exact True.intro
    | refine ev_seq ?_
    | ((first | refine vgd_go ?_ | refine ev_region hE hM (hS (by decide +kernel)) ?_ | refine ev_if ?_ | refine end_ret hE rfl rfl ?_ | refine end_norm hE rfl rfl ?_ | refine endG_ret [] hE rfl ?_ | refine endG_norm [] hE rfl ?_ | refine vcallG_at (args := [.ptr 1 0, iT n]) 1 [] rfl hP (s_l1Next c _ n hc (by omega) (by omega) (by omega) (by omega)) ?_ | refine vcall_A ?_); simp (maxSteps := 2000000) only [go_sem, hP, ↓reduceIte, Nat.reduceAdd, Nat.reduceMul, Nat.reduceEqDiff, Nat.reduceSub, Nat.reduceLeDiff, reduceCtorEq])
    | refine ev_skip ?_ | refine ev_block ?_ | refine ev_blk ?_ | refine ev_ret ?_ | refine ev_exit ?_ | refine evx_code_ret ?_ | refine evx_blk_ret ?_ | refine evx_lp_ret ?_
    | refine evx_code_exit ?_ | refine evx_lp_exit ?_ | refine evx_blk_hit ?_ | refine evx_blk_pass (by decide) ?_
    | refine And.intro ?_ ?_ | intro _ | decide +kernel | omega)
theorem s_l1Pick (c : List Int) (a : Int) (xs : List Int) (hc : codeOk c) (h0 : 0 ≤ a) (h1 : a ≤ 1073741824) (h2 : 1 ≤ xs.length) (h3 : xs.length ≤ 60000) : SatG Try.prog 135 false [.ptr 1 0, .c (.sl none 1 (xs.map eI))] [(1, bSrc c a)] (iT (pk c a xs)) [(1, bSrc c (a + 1))] := by
  refine satG_walk (fn := Try.f135) rfl rfl rfl (Nat.le_of_ble_eq_true rfl) (by simp) fun fr hP hN hdp hb1 hb2 => ?_
  have hE : (envOf fr Try.prog).Ok := envOf_ok hP
  have hM := follows_of hP
  have hS : ∀ {draw ops}, statB Try.f135.ntmps draw ops = true → statB (envOf fr Try.prog).fr.N draw ops = true := fun h => by rw [envOf_fr, hN]; exact h
  obtain ⟨p1, p2⟩ := nx_in (c := c) (a := a) (n := xs.length) (by omega)
  unfold pk
  repeat' (first
    | exact True.intro
    | refine ev_seq ?_
    | ((first | refine vgd_go ?_ | refine ev_region hE hM (hS (by decide +kernel)) ?_ | refine ev_if ?_ | refine end_ret hE rfl rfl ?_ | refine end_norm hE rfl rfl ?_ | refine endG_ret [] hE rfl ?_ | refine endG_norm [] hE rfl ?_ | refine vcallG_at (args := [.ptr 1 0, iT xs.length]) 1 [] rfl hP (s_l1Next c _ xs.length hc (by omega) (by omega) (by omega) (by omega)) ?_ | refine vcall_A ?_); simp (maxSteps := 2000000) only [go_sem, hP, ↓reduceIte, Nat.reduceAdd, Nat.reduceMul, Nat.reduceEqDiff, Nat.reduceSub, Nat.reduceLeDiff, reduceCtorEq, List.length_map])
    | refine ev_skip ?_ | refine ev_block ?_ | refine ev_blk ?_ | refine ev_ret ?_ | refine ev_exit ?_ | refine evx_code_ret ?_ | refine evx_blk_ret ?_ | refine evx_lp_ret ?_
    | refine evx_code_exit ?_ | refine evx_lp_exit ?_ | refine evx_blk_hit ?_ | refine evx_blk_pass (by decide) ?_
    | refine And.intro ?_ ?_ | intro _ | decide +kernel | omega)
theorem s_l1Coord (c : List Int) (a : Int) (hc : codeOk c) (h0 : 0 ≤ a) (h1 : a ≤ 1073741800) : SatG Try.prog 244 false [.ptr 1 0] [(1, bSrc c a)] (iT (coord c a)) [(1, bSrc c (a + 5))] := by
  refine satG_walk (fn := Try.f244) rfl rfl rfl (Nat.le_of_ble_eq_true rfl) (by simp) fun fr hP hN hdp hb1 hb2 => ?_
  have hE : (envOf fr Try.prog).Ok := envOf_ok hP
  have hM := follows_of hP
  have hS : ∀ {draw ops}, statB Try.f244.ntmps draw ops = true → statB (envOf fr Try.prog).fr.N draw ops = true := fun h => by rw [envOf_fr, hN]; exact h
  obtain ⟨p1, p2⟩ := nx_in (c := c) (a := a + 2) (n := 20) (by omega)
  obtain ⟨p3, p4⟩ := nx_in (c := c) (a := a + 3) (n := 300) (by omega)
  have w1 : IntKind.i64.wrap (nx c (a + 2) 20 - 10) = nx c (a + 2) 20 - 10 := i64_in _ (by omega)
  have w2 : IntKind.i64.wrap (nx c (a + 3) 300 * 3) = nx c (a + 3) 300 * 3 := i64_in _ (by omega)
  have w3 : IntKind.i64.wrap (nx c (a + 3) 300 * 3 - 400) = nx c (a + 3) 300 * 3 - 400 := i64_in _ (by omega)
  unfold coord
  repeat' (first
    | exact True.intro
    | refine ev_seq ?_
    | ((first | refine vgd_go ?_ | refine ev_region hE hM (hS (by decide +kernel)) ?_ | refine ev_if ?_ | refine end_ret hE rfl rfl ?_ | refine end_norm hE rfl rfl ?_ | refine endG_ret [] hE rfl ?_ | refine endG_norm [] hE rfl ?_ | refine vcallG_at (args := [.ptr 1 0, iT 20]) 1 [] rfl hP (s_l1Next c _ 20 hc (by omega) (by omega) (by omega) (by omega)) ?_ | refine vcallG_at (args := [.ptr 1 0, iT 300]) 1 [] rfl hP (s_l1Next c _ 300 hc (by omega) (by omega) (by omega) (by omega)) ?_ | refine vcallG_at (args := [.ptr 1 0, .ref 4192]) 1 [4192] rfl hP (s_l1Pick c _ [nx c a 20, nx c (a + 1) 20, nx c (a + 2) 20 - 10, nx c (a + 3) 300 * 3 - 400, 1000, -1000] hc (by omega) (by omega) (by simp) (by simp)) ?_ | refine vcall_A ?_); simp (maxSteps := 2000000) only [go_sem, hP, ↓reduceIte, Nat.reduceAdd, Nat.reduceMul, Nat.reduceEqDiff, Nat.reduceSub, Nat.reduceLeDiff, reduceCtorEq, Int.add_assoc, Int.reduceAdd, w1, w2, w3])
    | refine ev_skip ?_ | refine ev_block ?_ | refine ev_blk ?_ | refine ev_ret ?_ | refine ev_exit ?_ | refine evx_code_ret ?_ | refine evx_blk_ret ?_ | refine evx_lp_ret ?_
    | refine evx_code_exit ?_ | refine evx_lp_exit ?_ | refine evx_blk_hit ?_ | refine evx_blk_pass (by decide) ?_
    | refine And.intro ?_ ?_ | intro _ | decide +kernel | omega)
  all_goals first | rfl | simp
theorem s_l1Dims (c : List Int) (a : Int) (hc : codeOk c) (h0 : 0 ≤ a) (h1 : a ≤ 1073741800) : SatG Try.prog 149 false [.ptr 1 0] [(1, bSrc c a)] (iT (pk c a [2, 2, 3])) [(1, bSrc c (a + 1))] := by
  refine satG_walk (fn := Try.f149) rfl rfl rfl (Nat.le_of_ble_eq_true rfl) (by simp) fun fr hP hN hdp hb1 hb2 => ?_
  have hE : (envOf fr Try.prog).Ok := envOf_ok hP
  have hM := follows_of hP
  have hS : ∀ {draw ops}, statB Try.f149.ntmps draw ops = true → statB (envOf fr Try.prog).fr.N draw ops = true := fun h => by rw [envOf_fr, hN]; exact h
  repeat' (first
    | exact True.intro
    | refine ev_seq ?_
    | ((first | refine vgd_go ?_ | refine ev_region hE hM (hS (by decide +kernel)) ?_ | refine ev_if ?_ | refine end_ret hE rfl rfl ?_ | refine end_norm hE rfl rfl ?_ | refine endG_ret [] hE rfl ?_ | refine endG_norm [] hE rfl ?_ | refine vcallG_at (args := [.ptr 1 0, .ref 4104]) 1 [4104] rfl hP (s_l1Pick c _ [2, 2, 3] hc (by omega) (by omega) (by simp) (by simp)) ?_ | refine vcall_A ?_); simp (maxSteps := 2000000) only [go_sem, hP, ↓reduceIte, Nat.reduceAdd, Nat.reduceMul, Nat.reduceEqDiff, Nat.reduceSub, Nat.reduceLeDiff, reduceCtorEq])
    | refine ev_skip ?_ | refine ev_block ?_ | refine ev_blk ?_ | refine ev_ret ?_ | refine ev_exit ?_ | refine evx_code_ret ?_ | refine evx_blk_ret ?_ | refine evx_lp_ret ?_
    | refine evx_code_exit ?_ | refine evx_lp_exit ?_ | refine evx_blk_hit ?_ | refine evx_blk_pass (by decide) ?_
    | refine And.intro ?_ ?_ | intro _ | decide +kernel | omega)
  all_goals rfl
theorem s_l1Source (c : List Int) : SatG Try.prog 148 false [.c (sY c)] [] (.ptr 1 0) [(1, bSrc c 0)] := by
  refine satG_walk (fn := Try.f148) rfl rfl rfl (Nat.le_of_ble_eq_true rfl) (by simp) fun fr hP hN hdp hb1 hb2 => ?_
  have hE : (envOf fr Try.prog).Ok := envOf_ok hP
  have hM := follows_of hP
  have hS : ∀ {draw ops}, statB Try.f148.ntmps draw ops = true → statB (envOf fr Try.prog).fr.N draw ops = true := fun h => by rw [envOf_fr, hN]; exact h
  repeat' (first
    | exact True.intro
    | refine ev_seq ?_
    | ((first | refine endG_ret [(1, some 4112)] hE rfl ?_ | refine vgd_go ?_ | refine ev_region hE hM (hS (by decide +kernel)) ?_ | refine ev_if ?_ | refine end_ret hE rfl rfl ?_ | refine end_norm hE rfl rfl ?_ | refine endG_ret [] hE rfl ?_ | refine endG_norm [] hE rfl ?_ | refine vcall_A ?_); simp (maxSteps := 2000000) only [go_sem, hP, ↓reduceIte, Nat.reduceAdd, Nat.reduceMul, Nat.reduceEqDiff, Nat.reduceSub, Nat.reduceLeDiff, reduceCtorEq])
    | refine ev_skip ?_ | refine ev_block ?_ | refine ev_blk ?_ | refine ev_ret ?_ | refine ev_exit ?_ | refine evx_code_ret ?_ | refine evx_blk_ret ?_ | refine evx_lp_ret ?_
    | refine evx_code_exit ?_ | refine evx_lp_exit ?_ | refine evx_blk_hit ?_ | refine evx_blk_pass (by decide) ?_
    | refine And.intro ?_ ?_ | intro _ | decide +kernel | omega)
theorem s_l1RectR (c : List Int) (a : Int) (d : Nat) (hc : codeOk c) (h0 : 0 ≤ a) (h1 : a ≤ 1073000000) (hd0 : 0 < d) (hd : d ≤ 100) : SatG Try.prog 246 false [.ptr 1 0, iT d] [(1, bSrc c a)] (.agg [.ref 2, .ref 3]) [(1, bSrc c (a + 6 * d)), (2, .arr true 2 1 ((rectLo c a d).map eI)), (3, .arr true 2 1 ((rectHi c a d).map eI))] := by
  refine satG_walk (fn := Try.f246) rfl rfl rfl (Nat.le_of_ble_eq_true rfl) (by simp) fun fr hP hN hdp hb1 hb2 => ?_
  have hE : (envOf fr Try.prog).Ok := envOf_ok hP
  have hM := follows_of hP
  have hS : ∀ {draw ops}, statB Try.f246.ntmps draw ops = true → statB (envOf fr Try.prog).fr.N draw ops = true := fun h => by rw [envOf_fr, hN]; exact h
  repeat' (first
    | exact True.intro
    | refine ev_seq ?_
    | ((first | refine vgd_go ?_ | refine ev_region hE hM (hS (by decide +kernel)) ?_ | refine ev_if ?_ | refine end_ret hE rfl rfl ?_ | refine end_norm hE rfl rfl ?_ | refine endG_ret [] hE rfl ?_ | refine endG_norm [] hE rfl ?_ | refine vcall_A ?_); simp (maxSteps := 2000000) only [go_sem, hP, ↓reduceIte, Nat.reduceAdd, Nat.reduceMul, Nat.reduceEqDiff, Nat.reduceSub, Nat.reduceLeDiff, reduceCtorEq])
    | refine ev_skip ?_ | refine ev_block ?_ | refine ev_blk ?_ | refine ev_ret ?_ | refine ev_exit ?_ | refine evx_code_ret ?_ | refine evx_blk_ret ?_ | refine evx_lp_ret ?_
    | refine evx_code_exit ?_ | refine evx_lp_exit ?_ | refine evx_blk_hit ?_ | refine evx_blk_pass (by decide) ?_
    | refine And.intro ?_ ?_ | intro _ | decide +kernel | omega)
  refine ev_loop (ι := Nat) (fun k => [(0, .ptr 1 0), (1, iT d), (4, .ptr 0 0), (5, .ptr 4104 0), (6, iT k)]) (fun k => [(1, bSrc c (a + 6 * k)), (0, .box [.nilS, .nilS]), (4104, .box [.ref 100000, .ref 100001]), (100000, .arr true 2 1 ((rectLo c a k).map eI)), (100001, .arr true 2 1 ((rectHi c a k).map eI))]) (fun _ => [(0, .ref 1)]) (fun k => k ≤ d) (fun k => d - k) 0 [(100000, none), (100001, none)] (by omega) (by simp only [go_sem, hP, ↓reduceIte, Nat.reduceAdd, Nat.reduceMul, Nat.reduceEqDiff, Nat.reduceSub, Nat.reduceLeDiff, reduceCtorEq]; simp [rectLo, rectHi]) ?_
  intro k hk
  have hw1 : k < d → IntKind.i64.wrap ((k : Int) + 1) = k + 1 := fun h => i64_in _ (by omega)
  have hl1 : (rectLo c a k).length = k := by simp [rectLo]
  have hl2 : (rectHi c a k).length = k := by simp [rectHi]
  have q1 := coord_in c (a + 6 * k)
  have q2 := pk5_in c (a + 6 * k + 5)
  have hw2 : IntKind.i64.wrap (coord c (a + 6 * k) + pk c (a + 6 * k + 5) [0, 1, 3, 8, 30]) = coord c (a + 6 * k) + pk c (a + 6 * k + 5) [0, 1, 3, 8, 30] := i64_in _ (by omega)
  by_cases hlt : k < d
  · repeat' (first
      | exact True.intro
      | refine ev_seq ?_
      | ((first | refine vgd_go ?_ | refine ev_region hE hM (hS (by decide +kernel)) ?_ | refine ev_if ?_ | refine end_ret hE rfl rfl ?_ | refine end_norm hE rfl rfl ?_ | refine endG_ret [] hE rfl ?_ | refine endG_norm [] hE rfl ?_ | refine vcallG_at (args := [.ptr 1 0]) 1 [] rfl hP (s_l1Coord c _ hc (by omega) (by omega)) ?_ | refine vcallG_at (args := [.ptr 1 0, .ref 24592]) 1 [24592] rfl hP (s_l1Pick c _ [0, 1, 3, 8, 30] hc (by omega) (by omega) (by simp) (by simp)) ?_ | refine vcallB_of hP (s_l1Min _ _) ?_ | refine vcall_A ?_); simp (maxSteps := 2000000) only [go_sem, hP, ↓reduceIte, Nat.reduceAdd, Nat.reduceMul, Nat.reduceEqDiff, Nat.reduceSub, Nat.reduceLeDiff, reduceCtorEq, Bool.and_self, List.length_map, hl1, hl2, hw2])
      | refine ev_skip ?_ | refine ev_block ?_ | refine ev_blk ?_ | refine ev_ret ?_ | refine ev_exit ?_ | refine evx_code_ret ?_ | refine evx_blk_ret ?_ | refine evx_lp_ret ?_
      | refine evx_code_exit ?_ | refine evx_lp_exit ?_ | refine evx_blk_hit ?_ | refine evx_blk_pass (by decide) ?_
      | refine And.intro ?_ ?_ | intro _ | decide +kernel | omega)
    all_goals first
      | exact ev_lp (k + 1) [(100000, some 28704), (100001, some 32800)] (by omega) (by omega) (by simp only [go_sem, hP, ↓reduceIte, Nat.reduceAdd, Nat.reduceMul, Nat.reduceEqDiff, Nat.reduceSub, Nat.reduceLeDiff, reduceCtorEq]; simp [hw1 hlt, rectLo, rectHi, List.range_succ]; exact ⟨by omega, rfl, rfl⟩)
      | (exfalso; omega)
      | rfl
      | omega
      | (simp_all; done)
  · have hke : k = d := by omega
    subst hke
    repeat' (first
      | exact True.intro
      | refine ev_seq ?_
      | ((first | refine endG_ret [(2, some 100000), (3, some 100001)] hE rfl ?_ | refine vgd_go ?_ | refine ev_region hE hM (hS (by decide +kernel)) ?_ | refine ev_if ?_ | refine end_ret hE rfl rfl ?_ | refine end_norm hE rfl rfl ?_ | refine endG_ret [] hE rfl ?_ | refine endG_norm [] hE rfl ?_ | refine vcall_A ?_); simp (maxSteps := 2000000) only [go_sem, hP, ↓reduceIte, Nat.reduceAdd, Nat.reduceMul, Nat.reduceEqDiff, Nat.reduceSub, Nat.reduceLeDiff, reduceCtorEq])
      | refine ev_skip ?_ | refine ev_block ?_ | refine ev_blk ?_ | refine ev_ret ?_ | refine ev_exit ?_ | refine evx_code_ret ?_ | refine evx_blk_ret ?_ | refine evx_lp_ret ?_
      | refine evx_code_exit ?_ | refine evx_lp_exit ?_ | refine evx_blk_hit ?_ | refine evx_blk_pass (by decide) ?_
      | refine And.intro ?_ ?_ | intro _ | decide +kernel | omega)
    all_goals first
      | (exfalso; omega)
      | (simp_all; done)
theorem s_l1Bent0 (c : List Int) (a : Int) (d : Nat) (hc : codeOk c) (h0 : 0 ≤ a) (h1 : a ≤ 1073000000 - 100000) (hd0 : 2 ≤ d) (hd : d ≤ 100) (hv : nx c (a + 6 * d) 14 = 0) : SatG Try.prog 150 false [.ptr 1 0, iT d] [(1, bSrc c a)] (.agg [.c (sI (bentV c a d).low), .c (sI (bentV c a d).high)]) [(1, bSrc c (bentA c a d))] := by
  have ev : bentV c a d = ⟨(rectLo c a d).set 0 (pk c (a + 6 * d + 1) [(rectHi c a d).getD 0 default + 1, -1001, 1001]), rectHi c a d⟩ := by unfold bentV; simp [hv, rectV]
  have ea : bentA c a d = a + 6 * d + 2 := by unfold bentA; simp [hv]
  rw [ev, ea]
  have h : SatG Try.prog 150 false [.ptr 1 0, iT d] [(1, bSrc c a)] (.agg [.ref 2, .ref 3]) ((1, bSrc c (a + 6 * d + 2)) :: [(2, .fro 1 (((rectLo c a d).set 0 (pk c (a + 6 * d + 1) [(rectHi c a d).getD 0 default + 1, -1001, 1001])).map eI)), (3, .fro 1 ((rectHi c a d).map eI))]) := by
    refine satG_walk (fn := Try.f150) rfl rfl rfl (Nat.le_of_ble_eq_true rfl) (by simp) fun fr hP hN hdp hb1 hb2 => ?_
    have hE : (envOf fr Try.prog).Ok := envOf_ok hP
    have hM := follows_of hP
    have hS : ∀ {draw ops}, statB Try.f150.ntmps draw ops = true → statB (envOf fr Try.prog).fr.N draw ops = true := fun h => by rw [envOf_fr, hN]; exact h
    have q0 := rectV_hi c a d 0 (by omega)
    have q1 := rectV_hi c a d 1 (by omega)
    have hl1 : (rectLo c a d).length = d := by simp [rectLo]
    have hl2 : (rectHi c a d).length = d := by simp [rectHi]
    have hw0 : IntKind.i64.wrap ((rectHi c a d).getD 0 default + 1) = (rectHi c a d).getD 0 default + 1 := i64_in _ (by omega)
    have hp : a + 6 * (d : Int) + 1 + 1 = a + 6 * d + 2 := by omega
    have t0 : Int.toNat 0 = 0 := rfl
    have t1 : Int.toNat 1 = 1 := rfl
    repeat' (first
      | exact True.intro
      | refine ev_seq ?_
      | ((first | refine endG_ret [(2, some 2101264), (3, some 3149840)] hE rfl ?_ | refine vgd_go ?_ | refine ev_region hE hM (hS (by decide +kernel)) ?_ | refine ev_if ?_ | refine end_ret hE rfl rfl ?_ | refine end_norm hE rfl rfl ?_ | refine endG_ret [] hE rfl ?_ | refine endG_norm [] hE rfl ?_ | refine vcallG_at (args := [.ptr 1 0, iT d]) 1 [] rfl hP (s_l1RectR c _ d hc (by omega) (by omega) (by omega) hd) ?_ | refine vcallG_at (args := [.ptr 1 0, iT 14]) 1 [] rfl hP (s_l1Next c _ 14 hc (by omega) (by omega) (by omega) (by omega)) ?_ | refine vcallG_at (args := [.ptr 1 0, .ref 16448]) 1 [16448] rfl hP (s_l1Pick c (a + 6 * d + 1) [(rectHi c a d).getD 0 default + 1, -1001, 1001] hc (by omega) (by omega) (by simp) (by simp)) ?_ | refine vcall_A ?_); simp (maxSteps := 2000000) only [go_sem, hP, ↓reduceIte, Nat.reduceAdd, Nat.reduceMul, Nat.reduceEqDiff, Nat.reduceSub, Nat.reduceLeDiff, reduceCtorEq, hp, List.length_map, List.length_set, hl1, hl2, hw0, t0, t1, Int.reduceBEq, hv])
      | refine ev_skip ?_ | refine ev_block ?_ | refine ev_blk ?_ | refine ev_ret ?_ | refine ev_exit ?_ | refine evx_code_ret ?_ | refine evx_blk_ret ?_ | refine evx_lp_ret ?_
      | refine evx_code_exit ?_ | refine evx_lp_exit ?_ | refine evx_blk_hit ?_ | refine evx_blk_pass (by decide) ?_
      | refine And.intro ?_ ?_ | intro _ | decide +kernel | omega)
    all_goals first
      | (exfalso; omega)
      | rfl
      | omega
      | (simp [List.map_set, List.map_drop, Es.strip_map]; done)
      | (simp [Es.strip_map]; exact ⟨fun _ _ => rfl, rfl⟩)
      | (rw [← strip_eI, List.map_set]; rfl)
      | (rw [List.take_of_length_le (by simp [hl2]), List.map_drop])
      | (rename_i h; exact h.symm)
      | trace_state
  exact satG_data (fz := [(2, .fro 1 (((rectLo c a d).set 0 (pk c (a + 6 * d + 1) [(rectHi c a d).getD 0 default + 1, -1001, 1001])).map eI)), (3, .fro 1 ((rectHi c a d).map eI))]) (fun κ h => by simp only [lk] at h; split at h <;> simp_all) trivial rfl h
theorem s_l1Bent1 (c : List Int) (a : Int) (d : Nat) (hc : codeOk c) (h0 : 0 ≤ a) (h1 : a ≤ 1073000000 - 100000) (hd0 : 2 ≤ d) (hd : d ≤ 100) (hv : nx c (a + 6 * d) 14 = 1) : SatG Try.prog 150 false [.ptr 1 0, iT d] [(1, bSrc c a)] (.agg [.c (sI (bentV c a d).low), .c (sI (bentV c a d).high)]) [(1, bSrc c (bentA c a d))] := by
  have ev : bentV c a d = ⟨rectLo c a d, (rectHi c a d).drop 1⟩ := by unfold bentV; simp [hv, rectV]
  have ea : bentA c a d = a + 6 * d + 1 := by unfold bentA; simp [hv]
  rw [ev, ea]
  have h : SatG Try.prog 150 false [.ptr 1 0, iT d] [(1, bSrc c a)] (.agg [.ref 2, .c (sI ((rectHi c a d).drop 1))]) ((1, bSrc c (a + 6 * d + 1)) :: [(2, .fro 1 ((rectLo c a d).map eI))]) := by
    refine satG_walk (fn := Try.f150) rfl rfl rfl (Nat.le_of_ble_eq_true rfl) (by simp) fun fr hP hN hdp hb1 hb2 => ?_
    have hE : (envOf fr Try.prog).Ok := envOf_ok hP
    have hM := follows_of hP
    have hS : ∀ {draw ops}, statB Try.f150.ntmps draw ops = true → statB (envOf fr Try.prog).fr.N draw ops = true := fun h => by rw [envOf_fr, hN]; exact h
    have q0 := rectV_hi c a d 0 (by omega)
    have q1 := rectV_hi c a d 1 (by omega)
    have hl1 : (rectLo c a d).length = d := by simp [rectLo]
    have hl2 : (rectHi c a d).length = d := by simp [rectHi]
    have hw0 : IntKind.i64.wrap ((rectHi c a d).getD 0 default + 1) = (rectHi c a d).getD 0 default + 1 := i64_in _ (by omega)
    have hp : a + 6 * (d : Int) + 1 + 1 = a + 6 * d + 2 := by omega
    have t0 : Int.toNat 0 = 0 := rfl
    have t1 : Int.toNat 1 = 1 := rfl
    repeat' (first
      | exact True.intro
      | refine ev_seq ?_
      | ((first | refine endG_ret [(2, some 2101264)] hE rfl ?_ | refine vgd_go ?_ | refine ev_region hE hM (hS (by decide +kernel)) ?_ | refine ev_if ?_ | refine end_ret hE rfl rfl ?_ | refine end_norm hE rfl rfl ?_ | refine endG_ret [] hE rfl ?_ | refine endG_norm [] hE rfl ?_ | refine vcallG_at (args := [.ptr 1 0, iT d]) 1 [] rfl hP (s_l1RectR c _ d hc (by omega) (by omega) (by omega) hd) ?_ | refine vcallG_at (args := [.ptr 1 0, iT 14]) 1 [] rfl hP (s_l1Next c _ 14 hc (by omega) (by omega) (by omega) (by omega)) ?_ | refine vcall_A ?_); simp (maxSteps := 2000000) only [go_sem, hP, ↓reduceIte, Nat.reduceAdd, Nat.reduceMul, Nat.reduceEqDiff, Nat.reduceSub, Nat.reduceLeDiff, reduceCtorEq, hp, List.length_map, List.length_set, hl1, hl2, hw0, t0, t1, Int.reduceBEq, hv])
      | refine ev_skip ?_ | refine ev_block ?_ | refine ev_blk ?_ | refine ev_ret ?_ | refine ev_exit ?_ | refine evx_code_ret ?_ | refine evx_blk_ret ?_ | refine evx_lp_ret ?_
      | refine evx_code_exit ?_ | refine evx_lp_exit ?_ | refine evx_blk_hit ?_ | refine evx_blk_pass (by decide) ?_
      | refine And.intro ?_ ?_ | intro _ | decide +kernel | omega)
    all_goals first
      | (exfalso; omega)
      | rfl
      | omega
      | (simp [List.map_set, List.map_drop, Es.strip_map]; done)
      | (simp [Es.strip_map]; exact ⟨fun _ _ => rfl, rfl⟩)
      | (rw [← strip_eI, List.map_set]; rfl)
      | (rw [List.take_of_length_le (by simp [hl2]), List.map_drop])
      | (rename_i h; exact h.symm)
      | trace_state
  exact satG_data (fz := [(2, .fro 1 ((rectLo c a d).map eI))]) (fun κ h => by simp only [lk] at h; split at h <;> simp_all) trivial rfl h
end Go.Proofs.Ytmpndkhnajogkaa.W
