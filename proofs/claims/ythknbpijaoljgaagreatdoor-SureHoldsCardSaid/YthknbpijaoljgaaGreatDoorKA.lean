/- Contracts of the functions that the law reaches, and the law. Conditions: none. -/
import Derived.Test.YthknbpijaoljgaaGreatDoorProg
import Derived.Test.YthknbpijaoljgaaGreatDoorSD
import Derived.KernelRfl
import Derived.Laws.Externs
import Derived.Shelf.Strings.Builder1
import Derived.Shelf.Strings.Builder2
import Derived.Shelf.Strings.OnBuilder
import Derived.Shelf.Small.Utf8
import Derived.Shelf.Small.Strs
import Derived.Shelf.Small.Wraps
import Derived.Shelf.Strings.Search1
import Derived.Shelf.Strings.Search2
import Derived.Shelf.Strings.Search3
import Derived.Shelf.Strings.Count
import Derived.Shelf.LaysM
import Derived.Shelf.Sort.Plain
import Derived.Ground.Names2Prog
import Derived.Shelf.Slices.CompactI
import Derived.Shelf.Slices.CompactS
import Derived.Shelf.Slices.In.SortNone
import Derived.Test.YthknbpijaoljgaaGreatDoorSC
import Derived.Lib.RowBridge
set_option maxRecDepth 100000
set_option linter.all false
namespace Go.Proofs.YthknbpijaoljgaaGreatDoor
open Go.Sy
def tyL : List (Nat × Ty) := [
 (0, { kd := .other, size := 1, bytes := 0, zero := [], cmp := .none, pl := [] }),
 (1, { kd := .func, size := 1, bytes := 8, zero := [.ot .nilFunc], cmp := .none, pl := [] }),
 (2, { kd := .int .i64, size := 1, bytes := 8, zero := [.it .i64 0], cmp := .some [.it .i64 0], pl := [] }),
 (3, { kd := .int .i64, size := 1, bytes := 8, zero := [.it .i64 0], cmp := .some [.it .i64 0], pl := [] }),
 (4, { kd := .bool, size := 1, bytes := 1, zero := [.bl Bool.false], cmp := .some [.bl Bool.false], pl := [] }),
 (5, { kd := .int .u8, size := 1, bytes := 1, zero := [.it .u8 0], cmp := .some [.it .u8 0], pl := [] }),
 (6, { kd := .int .u8, size := 1, bytes := 1, zero := [.it .u8 0], cmp := .some [.it .u8 0], pl := [] }),
 (7, { kd := .struct [(0, 2), (1, 3), (2, 4), (3, 6)], size := 4, bytes := 24, zero := [.it .i64 0, .it .i64 0, .bl Bool.false, .it .u8 0], cmp := .some [.it .i64 0, .it .i64 0, .bl Bool.false, .it .u8 0], pl := [(0, 1), (1, 1), (2, 1), (3, 1)] }),
 (8, { kd := .struct [(0, 2), (1, 3), (2, 4), (3, 6)], size := 4, bytes := 24, zero := [.it .i64 0, .it .i64 0, .bl Bool.false, .it .u8 0], cmp := .some [.it .i64 0, .it .i64 0, .bl Bool.false, .it .u8 0], pl := [(0, 1), (1, 1), (2, 1), (3, 1)] }),
 (9, { kd := .string, size := 1, bytes := 16, zero := [.st []], cmp := .some [.st []], pl := [] }),
 (10, { kd := .string, size := 1, bytes := 16, zero := [.st []], cmp := .some [.st []], pl := [] }),
 (11, { kd := .string, size := 1, bytes := 16, zero := [.st []], cmp := .some [.st []], pl := [] }),
 (12, { kd := .int .u64, size := 1, bytes := 8, zero := [.it .u64 0], cmp := .some [.it .u64 0], pl := [] }),
 (13, { kd := .struct [(0, 9), (1, 12)], size := 2, bytes := 24, zero := [.st [], .it .u64 0], cmp := .none, pl := [(0, 1), (1, 1)] }),
 (14, { kd := .struct [(0, 9), (1, 12)], size := 2, bytes := 24, zero := [.st [], .it .u64 0], cmp := .none, pl := [(0, 1), (1, 1)] }),
 (15, { kd := .ptr 301, size := 1, bytes := 8, zero := [.ot (.pointer .none)], cmp := .none, pl := [] }),
 (16, { kd := .ptr 304, size := 1, bytes := 8, zero := [.ot (.pointer .none)], cmp := .none, pl := [] }),
 (17, { kd := .ptr 312, size := 1, bytes := 8, zero := [.ot (.pointer .none)], cmp := .none, pl := [] }),
 (18, { kd := .struct [(0, 17)], size := 1, bytes := 8, zero := [.ot (.pointer .none)], cmp := .none, pl := [(0, 1)] }),
 (19, { kd := .struct [(0, 17)], size := 1, bytes := 8, zero := [.ot (.pointer .none)], cmp := .none, pl := [(0, 1)] }),
 (20, { kd := .other, size := 1, bytes := 16, zero := [.ot .nilIface], cmp := .none, pl := [] }),
 (21, { kd := .int .i32, size := 1, bytes := 4, zero := [.it .i32 0], cmp := .some [.it .i32 0], pl := [] }),
 (22, { kd := .slice 34, size := 1, bytes := 24, zero := [.fs 32 []], cmp := .none, pl := [] }),
 (23, { kd := .slice 38, size := 1, bytes := 24, zero := [.fs 36 []], cmp := .none, pl := [] }),
 (24, { kd := .slice 3, size := 1, bytes := 24, zero := [.fs 1 []], cmp := .none, pl := [] }),
 (25, { kd := .func, size := 1, bytes := 8, zero := [.ot .nilFunc], cmp := .none, pl := [] }),
 (26, { kd := .ptr 104, size := 1, bytes := 8, zero := [.ot (.pointer .none)], cmp := .none, pl := [] }),
 (27, { kd := .func, size := 1, bytes := 8, zero := [.ot .nilFunc], cmp := .none, pl := [] }),
 (28, { kd := .ptr 53, size := 1, bytes := 8, zero := [.ot (.pointer .none)], cmp := .none, pl := [] }),
 (29, { kd := .int .i64, size := 1, bytes := 8, zero := [.it .i64 0], cmp := .some [.it .i64 0], pl := [] }),
 (30, { kd := .other, size := 1, bytes := 0, zero := [], cmp := .none, pl := [] }),
 (32, { kd := .func, size := 1, bytes := 8, zero := [.ot .nilFunc], cmp := .none, pl := [] }),
 (34, { kd := .arr 32 5, size := 32, bytes := 32, zero := [.it .u8 0, .it .u8 0, .it .u8 0, .it .u8 0, .it .u8 0, .it .u8 0, .it .u8 0, .it .u8 0, .it .u8 0, .it .u8 0, .it .u8 0, .it .u8 0, .it .u8 0, .it .u8 0, .it .u8 0, .it .u8 0, .it .u8 0, .it .u8 0, .it .u8 0, .it .u8 0, .it .u8 0, .it .u8 0, .it .u8 0, .it .u8 0, .it .u8 0, .it .u8 0, .it .u8 0, .it .u8 0, .it .u8 0, .it .u8 0, .it .u8 0, .it .u8 0], cmp := .some [.it .u8 0, .it .u8 0, .it .u8 0, .it .u8 0, .it .u8 0, .it .u8 0, .it .u8 0, .it .u8 0, .it .u8 0, .it .u8 0, .it .u8 0, .it .u8 0, .it .u8 0, .it .u8 0, .it .u8 0, .it .u8 0, .it .u8 0, .it .u8 0, .it .u8 0, .it .u8 0, .it .u8 0, .it .u8 0, .it .u8 0, .it .u8 0, .it .u8 0, .it .u8 0, .it .u8 0, .it .u8 0, .it .u8 0, .it .u8 0, .it .u8 0, .it .u8 0], pl := [] }),
 (36, { kd := .struct [(0, 3), (1, 3)], size := 2, bytes := 16, zero := [.it .i64 0, .it .i64 0], cmp := .some [.it .i64 0, .it .i64 0], pl := [(0, 1), (1, 1)] }),
 (38, { kd := .struct [(0, 3), (1, 34), (33, 36), (35, 3)], size := 36, bytes := 64, zero := [.it .i64 0, .it .u8 0, .it .u8 0, .it .u8 0, .it .u8 0, .it .u8 0, .it .u8 0, .it .u8 0, .it .u8 0, .it .u8 0, .it .u8 0, .it .u8 0, .it .u8 0, .it .u8 0, .it .u8 0, .it .u8 0, .it .u8 0, .it .u8 0, .it .u8 0, .it .u8 0, .it .u8 0, .it .u8 0, .it .u8 0, .it .u8 0, .it .u8 0, .it .u8 0, .it .u8 0, .it .u8 0, .it .u8 0, .it .u8 0, .it .u8 0, .it .u8 0, .it .u8 0, .it .i64 0, .it .i64 0, .it .i64 0], cmp := .some [.it .i64 0, .it .u8 0, .it .u8 0, .it .u8 0, .it .u8 0, .it .u8 0, .it .u8 0, .it .u8 0, .it .u8 0, .it .u8 0, .it .u8 0, .it .u8 0, .it .u8 0, .it .u8 0, .it .u8 0, .it .u8 0, .it .u8 0, .it .u8 0, .it .u8 0, .it .u8 0, .it .u8 0, .it .u8 0, .it .u8 0, .it .u8 0, .it .u8 0, .it .u8 0, .it .u8 0, .it .u8 0, .it .u8 0, .it .u8 0, .it .u8 0, .it .u8 0, .it .u8 0, .it .i64 0, .it .i64 0, .it .i64 0], pl := [(0, 1), (1, 32), (33, 2), (35, 1)] }),
 (40, { kd := .other, size := 1, bytes := 0, zero := [], cmp := .none, pl := [] }),
 (45, { kd := .other, size := 1, bytes := 0, zero := [], cmp := .none, pl := [] }),
 (50, { kd := .slice 80, size := 1, bytes := 24, zero := [.fs 38 []], cmp := .none, pl := [] }),
 (53, { kd := .struct [(0, 22), (1, 23), (2, 3), (3, 50), (4, 24), (5, 3)], size := 6, bytes := 112, zero := [.fs 32 [], .fs 36 [], .it .i64 0, .fs 38 [], .fs 1 [], .it .i64 0], cmp := .none, pl := [(0, 1), (1, 1), (2, 1), (3, 1), (4, 1), (5, 1)] }),
 (56, { kd := .struct [(0, 22), (1, 23)], size := 2, bytes := 48, zero := [.fs 32 [], .fs 36 []], cmp := .none, pl := [(0, 1), (1, 1)] }),
 (57, { kd := .struct [(0, 22), (1, 23)], size := 2, bytes := 48, zero := [.fs 32 [], .fs 36 []], cmp := .none, pl := [(0, 1), (1, 1)] }),
 (58, { kd := .slice 62, size := 1, bytes := 24, zero := [.fs 1 []], cmp := .none, pl := [] }),
 (59, { kd := .other, size := 1, bytes := 0, zero := [], cmp := .none, pl := [] }),
 (62, { kd := .slice 115, size := 1, bytes := 24, zero := [.fs 3 []], cmp := .none, pl := [] }),
 (63, { kd := .other, size := 1, bytes := 0, zero := [], cmp := .none, pl := [] }),
 (64, { kd := .func, size := 1, bytes := 8, zero := [.ot .nilFunc], cmp := .none, pl := [] }),
 (68, { kd := .int .u64, size := 1, bytes := 8, zero := [.it .u64 0], cmp := .some [.it .u64 0], pl := [] }),
 (69, { kd := .other, size := 1, bytes := 0, zero := [], cmp := .none, pl := [] }),
 (72, { kd := .other, size := 1, bytes := 0, zero := [], cmp := .none, pl := [] }),
 (78, { kd := .slice 36, size := 1, bytes := 24, zero := [.fs 2 []], cmp := .none, pl := [] }),
 (80, { kd := .struct [(0, 3), (1, 38), (37, 78)], size := 38, bytes := 96, zero := [.it .i64 0, .it .i64 0, .it .u8 0, .it .u8 0, .it .u8 0, .it .u8 0, .it .u8 0, .it .u8 0, .it .u8 0, .it .u8 0, .it .u8 0, .it .u8 0, .it .u8 0, .it .u8 0, .it .u8 0, .it .u8 0, .it .u8 0, .it .u8 0, .it .u8 0, .it .u8 0, .it .u8 0, .it .u8 0, .it .u8 0, .it .u8 0, .it .u8 0, .it .u8 0, .it .u8 0, .it .u8 0, .it .u8 0, .it .u8 0, .it .u8 0, .it .u8 0, .it .u8 0, .it .u8 0, .it .i64 0, .it .i64 0, .it .i64 0, .fs 2 []], cmp := .none, pl := [(0, 1), (1, 36), (37, 1)] }),
 (84, { kd := .struct [(0, 3), (1, 3)], size := 2, bytes := 16, zero := [.it .i64 0, .it .i64 0], cmp := .some [.it .i64 0, .it .i64 0], pl := [(0, 1), (1, 1)] }),
 (88, { kd := .struct [(0, 3), (1, 3)], size := 2, bytes := 16, zero := [.it .i64 0, .it .i64 0], cmp := .some [.it .i64 0, .it .i64 0], pl := [(0, 1), (1, 1)] }),
 (90, { kd := .struct [(0, 4), (1, 3), (2, 9), (3, 3)], size := 4, bytes := 40, zero := [.bl Bool.false, .it .i64 0, .st [], .it .i64 0], cmp := .some [.bl Bool.false, .it .i64 0, .st [], .it .i64 0], pl := [(0, 1), (1, 1), (2, 1), (3, 1)] }),
 (92, { kd := .other, size := 1, bytes := 0, zero := [], cmp := .none, pl := [] }),
 (94, { kd := .arr 4 3, size := 4, bytes := 32, zero := [.it .i64 0, .it .i64 0, .it .i64 0, .it .i64 0], cmp := .some [.it .i64 0, .it .i64 0, .it .i64 0, .it .i64 0], pl := [] }),
 (96, { kd := .struct [(0, 3), (1, 3), (2, 94)], size := 6, bytes := 48, zero := [.it .i64 0, .it .i64 0, .it .i64 0, .it .i64 0, .it .i64 0, .it .i64 0], cmp := .some [.it .i64 0, .it .i64 0, .it .i64 0, .it .i64 0, .it .i64 0, .it .i64 0], pl := [(0, 1), (1, 1), (2, 4)] }),
 (98, { kd := .other, size := 1, bytes := 0, zero := [], cmp := .none, pl := [] }),
 (100, { kd := .map 3 3, size := 1, bytes := 8, zero := [.ot (.map .none)], cmp := .none, pl := [] }),
 (102, { kd := .struct [(0, 100), (1, 3)], size := 2, bytes := 16, zero := [.ot (.map .none), .it .i64 0], cmp := .none, pl := [(0, 1), (1, 1)] }),
 (104, { kd := .struct [(0, 102), (2, 22), (3, 23), (4, 50), (5, 3)], size := 6, bytes := 96, zero := [.ot (.map .none), .it .i64 0, .fs 32 [], .fs 36 [], .fs 38 [], .it .i64 0], cmp := .none, pl := [(0, 2), (2, 1), (3, 1), (4, 1), (5, 1)] }),
 (115, { kd := .struct [(0, 9), (1, 4), (2, 9)], size := 3, bytes := 40, zero := [.st [], .bl Bool.false, .st []], cmp := .some [.st [], .bl Bool.false, .st []], pl := [(0, 1), (1, 1), (2, 1)] }),
 (116, { kd := .slice 68, size := 1, bytes := 24, zero := [.fs 1 []], cmp := .none, pl := [] }),
 (117, { kd := .other, size := 1, bytes := 0, zero := [], cmp := .none, pl := [] }),
 (121, { kd := .func, size := 1, bytes := 8, zero := [.ot .nilFunc], cmp := .none, pl := [] }),
 (125, { kd := .map 115 3, size := 1, bytes := 8, zero := [.ot (.map .none)], cmp := .none, pl := [] }),
 (126, { kd := .other, size := 1, bytes := 0, zero := [], cmp := .none, pl := [] }),
 (129, { kd := .func, size := 1, bytes := 8, zero := [.ot .nilFunc], cmp := .none, pl := [] }),
 (139, { kd := .func, size := 1, bytes := 8, zero := [.ot .nilFunc], cmp := .none, pl := [] }),
 (140, { kd := .func, size := 1, bytes := 8, zero := [.ot .nilFunc], cmp := .none, pl := [] }),
 (143, { kd := .func, size := 1, bytes := 8, zero := [.ot .nilFunc], cmp := .none, pl := [] }),
 (159, { kd := .other, size := 1, bytes := 0, zero := [], cmp := .none, pl := [] }),
 (163, { kd := .other, size := 1, bytes := 0, zero := [], cmp := .none, pl := [] }),
 (166, { kd := .other, size := 1, bytes := 0, zero := [], cmp := .none, pl := [] }),
 (169, { kd := .func, size := 1, bytes := 8, zero := [.ot .nilFunc], cmp := .none, pl := [] }),
 (170, { kd := .func, size := 1, bytes := 8, zero := [.ot .nilFunc], cmp := .none, pl := [] }),
 (178, { kd := .int .u64, size := 1, bytes := 8, zero := [.it .u64 0], cmp := .some [.it .u64 0], pl := [] }),
 (179, { kd := .slice 5, size := 1, bytes := 24, zero := [.fs 1 []], cmp := .none, pl := [] }),
 (181, { kd := .slice 9, size := 1, bytes := 24, zero := [.fs 1 []], cmp := .none, pl := [] }),
 (182, { kd := .func, size := 1, bytes := 8, zero := [.ot .nilFunc], cmp := .none, pl := [] }),
 (184, { kd := .other, size := 1, bytes := 0, zero := [], cmp := .none, pl := [] }),
 (188, { kd := .ptr 102, size := 1, bytes := 8, zero := [.ot (.pointer .none)], cmp := .none, pl := [] }),
 (195, { kd := .func, size := 1, bytes := 8, zero := [.ot .nilFunc], cmp := .none, pl := [] }),
 (197, { kd := .func, size := 1, bytes := 8, zero := [.ot .nilFunc], cmp := .none, pl := [] }),
 (198, { kd := .func, size := 1, bytes := 8, zero := [.ot .nilFunc], cmp := .none, pl := [] }),
 (201, { kd := .func, size := 1, bytes := 8, zero := [.ot .nilFunc], cmp := .none, pl := [] }),
 (202, { kd := .func, size := 1, bytes := 8, zero := [.ot .nilFunc], cmp := .none, pl := [] }),
 (204, { kd := .func, size := 1, bytes := 8, zero := [.ot .nilFunc], cmp := .none, pl := [] }),
 (206, { kd := .arr 32 3, size := 32, bytes := 256, zero := [.it .i64 0, .it .i64 0, .it .i64 0, .it .i64 0, .it .i64 0, .it .i64 0, .it .i64 0, .it .i64 0, .it .i64 0, .it .i64 0, .it .i64 0, .it .i64 0, .it .i64 0, .it .i64 0, .it .i64 0, .it .i64 0, .it .i64 0, .it .i64 0, .it .i64 0, .it .i64 0, .it .i64 0, .it .i64 0, .it .i64 0, .it .i64 0, .it .i64 0, .it .i64 0, .it .i64 0, .it .i64 0, .it .i64 0, .it .i64 0, .it .i64 0, .it .i64 0], cmp := .some [.it .i64 0, .it .i64 0, .it .i64 0, .it .i64 0, .it .i64 0, .it .i64 0, .it .i64 0, .it .i64 0, .it .i64 0, .it .i64 0, .it .i64 0, .it .i64 0, .it .i64 0, .it .i64 0, .it .i64 0, .it .i64 0, .it .i64 0, .it .i64 0, .it .i64 0, .it .i64 0, .it .i64 0, .it .i64 0, .it .i64 0, .it .i64 0, .it .i64 0, .it .i64 0, .it .i64 0, .it .i64 0, .it .i64 0, .it .i64 0, .it .i64 0, .it .i64 0], pl := [] }),
 (219, { kd := .ptr 221, size := 1, bytes := 8, zero := [.ot (.pointer .none)], cmp := .none, pl := [] }),
 (221, { kd := .struct [(0, 219), (1, 179)], size := 2, bytes := 32, zero := [.ot (.pointer .none), .fs 1 []], cmp := .none, pl := [(0, 1), (1, 1)] }),
 (223, { kd := .other, size := 1, bytes := 16, zero := [.ot .nilIface], cmp := .none, pl := [] }),
 (224, { kd := .other, size := 1, bytes := 0, zero := [], cmp := .none, pl := [] }),
 (230, { kd := .func, size := 1, bytes := 8, zero := [.ot .nilFunc], cmp := .none, pl := [] }),
 (235, { kd := .func, size := 1, bytes := 8, zero := [.ot .nilFunc], cmp := .none, pl := [] }),
 (241, { kd := .ptr 5, size := 1, bytes := 8, zero := [.ot (.pointer .none)], cmp := .none, pl := [] }),
 (250, { kd := .int .i64, size := 1, bytes := 8, zero := [.it .i64 0], cmp := .some [.it .i64 0], pl := [] }),
 (251, { kd := .other, size := 1, bytes := 0, zero := [], cmp := .none, pl := [] }),
 (258, { kd := .int .u32, size := 1, bytes := 4, zero := [.it .u32 0], cmp := .some [.it .u32 0], pl := [] }),
 (260, { kd := .usafe, size := 1, bytes := 8, zero := [.ot (.pointer .none)], cmp := .none, pl := [] }),
 (268, { kd := .int .u64, size := 1, bytes := 8, zero := [.it .u64 0], cmp := .some [.it .u64 0], pl := [] }),
 (272, { kd := .ptr 3, size := 1, bytes := 8, zero := [.ot (.pointer .none)], cmp := .none, pl := [] }),
 (278, { kd := .ptr 268, size := 1, bytes := 8, zero := [.ot (.pointer .none)], cmp := .none, pl := [] }),
 (283, { kd := .arr 256 4, size := 256, bytes := 256, zero := [.bl Bool.false, .bl Bool.false, .bl Bool.false, .bl Bool.false, .bl Bool.false, .bl Bool.false, .bl Bool.false, .bl Bool.false, .bl Bool.false, .bl Bool.false, .bl Bool.false, .bl Bool.false, .bl Bool.false, .bl Bool.false, .bl Bool.false, .bl Bool.false, .bl Bool.false, .bl Bool.false, .bl Bool.false, .bl Bool.false, .bl Bool.false, .bl Bool.false, .bl Bool.false, .bl Bool.false, .bl Bool.false, .bl Bool.false, .bl Bool.false, .bl Bool.false, .bl Bool.false, .bl Bool.false, .bl Bool.false, .bl Bool.false, .bl Bool.false, .bl Bool.false, .bl Bool.false, .bl Bool.false, .bl Bool.false, .bl Bool.false, .bl Bool.false, .bl Bool.false, .bl Bool.false, .bl Bool.false, .bl Bool.false, .bl Bool.false, .bl Bool.false, .bl Bool.false, .bl Bool.false, .bl Bool.false, .bl Bool.false, .bl Bool.false, .bl Bool.false, .bl Bool.false, .bl Bool.false, .bl Bool.false, .bl Bool.false, .bl Bool.false, .bl Bool.false, .bl Bool.false, .bl Bool.false, .bl Bool.false, .bl Bool.false, .bl Bool.false, .bl Bool.false, .bl Bool.false, .bl Bool.false, .bl Bool.false, .bl Bool.false, .bl Bool.false, .bl Bool.false, .bl Bool.false, .bl Bool.false, .bl Bool.false, .bl Bool.false, .bl Bool.false, .bl Bool.false, .bl Bool.false, .bl Bool.false, .bl Bool.false, .bl Bool.false, .bl Bool.false, .bl Bool.false, .bl Bool.false, .bl Bool.false, .bl Bool.false, .bl Bool.false, .bl Bool.false, .bl Bool.false, .bl Bool.false, .bl Bool.false, .bl Bool.false, .bl Bool.false, .bl Bool.false, .bl Bool.false, .bl Bool.false, .bl Bool.false, .bl Bool.false, .bl Bool.false, .bl Bool.false, .bl Bool.false, .bl Bool.false, .bl Bool.false, .bl Bool.false, .bl Bool.false, .bl Bool.false, .bl Bool.false, .bl Bool.false, .bl Bool.false, .bl Bool.false, .bl Bool.false, .bl Bool.false, .bl Bool.false, .bl Bool.false, .bl Bool.false, .bl Bool.false, .bl Bool.false, .bl Bool.false, .bl Bool.false, .bl Bool.false, .bl Bool.false, .bl Bool.false, .bl Bool.false, .bl Bool.false, .bl Bool.false, .bl Bool.false, .bl Bool.false, .bl Bool.false, .bl Bool.false, .bl Bool.false, .bl Bool.false, .bl Bool.false, .bl Bool.false, .bl Bool.false, .bl Bool.false, .bl Bool.false, .bl Bool.false, .bl Bool.false, .bl Bool.false, .bl Bool.false, .bl Bool.false, .bl Bool.false, .bl Bool.false, .bl Bool.false, .bl Bool.false, .bl Bool.false, .bl Bool.false, .bl Bool.false, .bl Bool.false, .bl Bool.false, .bl Bool.false, .bl Bool.false, .bl Bool.false, .bl Bool.false, .bl Bool.false, .bl Bool.false, .bl Bool.false, .bl Bool.false, .bl Bool.false, .bl Bool.false, .bl Bool.false, .bl Bool.false, .bl Bool.false, .bl Bool.false, .bl Bool.false, .bl Bool.false, .bl Bool.false, .bl Bool.false, .bl Bool.false, .bl Bool.false, .bl Bool.false, .bl Bool.false, .bl Bool.false, .bl Bool.false, .bl Bool.false, .bl Bool.false, .bl Bool.false, .bl Bool.false, .bl Bool.false, .bl Bool.false, .bl Bool.false, .bl Bool.false, .bl Bool.false, .bl Bool.false, .bl Bool.false, .bl Bool.false, .bl Bool.false, .bl Bool.false, .bl Bool.false, .bl Bool.false, .bl Bool.false, .bl Bool.false, .bl Bool.false, .bl Bool.false, .bl Bool.false, .bl Bool.false, .bl Bool.false, .bl Bool.false, .bl Bool.false, .bl Bool.false, .bl Bool.false, .bl Bool.false, .bl Bool.false, .bl Bool.false, .bl Bool.false, .bl Bool.false, .bl Bool.false, .bl Bool.false, .bl Bool.false, .bl Bool.false, .bl Bool.false, .bl Bool.false, .bl Bool.false, .bl Bool.false, .bl Bool.false, .bl Bool.false, .bl Bool.false, .bl Bool.false, .bl Bool.false, .bl Bool.false, .bl Bool.false, .bl Bool.false, .bl Bool.false, .bl Bool.false, .bl Bool.false, .bl Bool.false, .bl Bool.false, .bl Bool.false, .bl Bool.false, .bl Bool.false, .bl Bool.false, .bl Bool.false, .bl Bool.false, .bl Bool.false, .bl Bool.false, .bl Bool.false, .bl Bool.false, .bl Bool.false, .bl Bool.false, .bl Bool.false, .bl Bool.false, .bl Bool.false, .bl Bool.false, .bl Bool.false, .bl Bool.false, .bl Bool.false, .bl Bool.false, .bl Bool.false, .bl Bool.false, .bl Bool.false, .bl Bool.false, .bl Bool.false, .bl Bool.false, .bl Bool.false, .bl Bool.false, .bl Bool.false, .bl Bool.false, .bl Bool.false], cmp := .some [.bl Bool.false, .bl Bool.false, .bl Bool.false, .bl Bool.false, .bl Bool.false, .bl Bool.false, .bl Bool.false, .bl Bool.false, .bl Bool.false, .bl Bool.false, .bl Bool.false, .bl Bool.false, .bl Bool.false, .bl Bool.false, .bl Bool.false, .bl Bool.false, .bl Bool.false, .bl Bool.false, .bl Bool.false, .bl Bool.false, .bl Bool.false, .bl Bool.false, .bl Bool.false, .bl Bool.false, .bl Bool.false, .bl Bool.false, .bl Bool.false, .bl Bool.false, .bl Bool.false, .bl Bool.false, .bl Bool.false, .bl Bool.false, .bl Bool.false, .bl Bool.false, .bl Bool.false, .bl Bool.false, .bl Bool.false, .bl Bool.false, .bl Bool.false, .bl Bool.false, .bl Bool.false, .bl Bool.false, .bl Bool.false, .bl Bool.false, .bl Bool.false, .bl Bool.false, .bl Bool.false, .bl Bool.false, .bl Bool.false, .bl Bool.false, .bl Bool.false, .bl Bool.false, .bl Bool.false, .bl Bool.false, .bl Bool.false, .bl Bool.false, .bl Bool.false, .bl Bool.false, .bl Bool.false, .bl Bool.false, .bl Bool.false, .bl Bool.false, .bl Bool.false, .bl Bool.false, .bl Bool.false, .bl Bool.false, .bl Bool.false, .bl Bool.false, .bl Bool.false, .bl Bool.false, .bl Bool.false, .bl Bool.false, .bl Bool.false, .bl Bool.false, .bl Bool.false, .bl Bool.false, .bl Bool.false, .bl Bool.false, .bl Bool.false, .bl Bool.false, .bl Bool.false, .bl Bool.false, .bl Bool.false, .bl Bool.false, .bl Bool.false, .bl Bool.false, .bl Bool.false, .bl Bool.false, .bl Bool.false, .bl Bool.false, .bl Bool.false, .bl Bool.false, .bl Bool.false, .bl Bool.false, .bl Bool.false, .bl Bool.false, .bl Bool.false, .bl Bool.false, .bl Bool.false, .bl Bool.false, .bl Bool.false, .bl Bool.false, .bl Bool.false, .bl Bool.false, .bl Bool.false, .bl Bool.false, .bl Bool.false, .bl Bool.false, .bl Bool.false, .bl Bool.false, .bl Bool.false, .bl Bool.false, .bl Bool.false, .bl Bool.false, .bl Bool.false, .bl Bool.false, .bl Bool.false, .bl Bool.false, .bl Bool.false, .bl Bool.false, .bl Bool.false, .bl Bool.false, .bl Bool.false, .bl Bool.false, .bl Bool.false, .bl Bool.false, .bl Bool.false, .bl Bool.false, .bl Bool.false, .bl Bool.false, .bl Bool.false, .bl Bool.false, .bl Bool.false, .bl Bool.false, .bl Bool.false, .bl Bool.false, .bl Bool.false, .bl Bool.false, .bl Bool.false, .bl Bool.false, .bl Bool.false, .bl Bool.false, .bl Bool.false, .bl Bool.false, .bl Bool.false, .bl Bool.false, .bl Bool.false, .bl Bool.false, .bl Bool.false, .bl Bool.false, .bl Bool.false, .bl Bool.false, .bl Bool.false, .bl Bool.false, .bl Bool.false, .bl Bool.false, .bl Bool.false, .bl Bool.false, .bl Bool.false, .bl Bool.false, .bl Bool.false, .bl Bool.false, .bl Bool.false, .bl Bool.false, .bl Bool.false, .bl Bool.false, .bl Bool.false, .bl Bool.false, .bl Bool.false, .bl Bool.false, .bl Bool.false, .bl Bool.false, .bl Bool.false, .bl Bool.false, .bl Bool.false, .bl Bool.false, .bl Bool.false, .bl Bool.false, .bl Bool.false, .bl Bool.false, .bl Bool.false, .bl Bool.false, .bl Bool.false, .bl Bool.false, .bl Bool.false, .bl Bool.false, .bl Bool.false, .bl Bool.false, .bl Bool.false, .bl Bool.false, .bl Bool.false, .bl Bool.false, .bl Bool.false, .bl Bool.false, .bl Bool.false, .bl Bool.false, .bl Bool.false, .bl Bool.false, .bl Bool.false, .bl Bool.false, .bl Bool.false, .bl Bool.false, .bl Bool.false, .bl Bool.false, .bl Bool.false, .bl Bool.false, .bl Bool.false, .bl Bool.false, .bl Bool.false, .bl Bool.false, .bl Bool.false, .bl Bool.false, .bl Bool.false, .bl Bool.false, .bl Bool.false, .bl Bool.false, .bl Bool.false, .bl Bool.false, .bl Bool.false, .bl Bool.false, .bl Bool.false, .bl Bool.false, .bl Bool.false, .bl Bool.false, .bl Bool.false, .bl Bool.false, .bl Bool.false, .bl Bool.false, .bl Bool.false, .bl Bool.false, .bl Bool.false, .bl Bool.false, .bl Bool.false, .bl Bool.false, .bl Bool.false, .bl Bool.false, .bl Bool.false, .bl Bool.false, .bl Bool.false, .bl Bool.false, .bl Bool.false, .bl Bool.false, .bl Bool.false, .bl Bool.false, .bl Bool.false, .bl Bool.false, .bl Bool.false, .bl Bool.false, .bl Bool.false, .bl Bool.false, .bl Bool.false, .bl Bool.false, .bl Bool.false, .bl Bool.false, .bl Bool.false, .bl Bool.false], pl := [] }),
 (284, { kd := .other, size := 1, bytes := 0, zero := [], cmp := .none, pl := [] }),
 (287, { kd := .ptr 283, size := 1, bytes := 8, zero := [.ot (.pointer .none)], cmp := .none, pl := [] }),
 (301, { kd := .struct [(0, 17), (1, 17), (2, 17), (3, 9)], size := 4, bytes := 40, zero := [.ot (.pointer .none), .ot (.pointer .none), .ot (.pointer .none), .st []], cmp := .none, pl := [(0, 1), (1, 1), (2, 1), (3, 1)] }),
 (302, { kd := .arr 0 16, size := 0, bytes := 0, zero := [], cmp := .none, pl := [] }),
 (304, { kd := .struct [(0, 302)], size := 0, bytes := 0, zero := [], cmp := .none, pl := [(0, 0)] }),
 (306, { kd := .int .u8, size := 1, bytes := 1, zero := [.it .u8 0], cmp := .some [.it .u8 0], pl := [] }),
 (307, { kd := .int .u8, size := 1, bytes := 1, zero := [.it .u8 0], cmp := .some [.it .u8 0], pl := [] }),
 (308, { kd := .func, size := 1, bytes := 8, zero := [.ot .nilFunc], cmp := .none, pl := [] }),
 (309, { kd := .int .i32, size := 1, bytes := 4, zero := [.it .i32 0], cmp := .some [.it .i32 0], pl := [] }),
 (310, { kd := .int .i32, size := 1, bytes := 4, zero := [.it .i32 0], cmp := .some [.it .i32 0], pl := [] }),
 (312, { kd := .struct [(0, 12), (1, 12), (2, 258), (3, 306), (4, 5), (5, 5), (6, 307), (7, 308), (8, 241), (9, 309), (10, 310)], size := 11, bytes := 48, zero := [.it .u64 0, .it .u64 0, .it .u32 0, .it .u8 0, .it .u8 0, .it .u8 0, .it .u8 0, .ot .nilFunc, .ot (.pointer .none), .it .i32 0, .it .i32 0], cmp := .none, pl := [(0, 1), (1, 1), (2, 1), (3, 1), (4, 1), (5, 1), (6, 1), (7, 1), (8, 1), (9, 1), (10, 1)] })]
def ti (t : Nat) : Option Ty := Go.Sy.look t tyL
theorem tyL_ok : tyL.map (fun p => tyOf Tryz.prog p.1) = tyL.map (fun p => some p.2) := by kernel_rfl
theorem ti_ok : TiOK Tryz.prog ti := tiOK_of tyL_ok
end Go.Proofs.YthknbpijaoljgaaGreatDoor
namespace Go.Proofs.YthknbpijaoljgaaGreatDoor
open Go.Sy
theorem i2 : FnI Tryz.prog 2 1 [] (bd Tryz.f2) := FnI.mk' Tryz.func2 rfl rfl rfl Tryz.call2
theorem i3 : FnI Tryz.prog 3 129 [.tmp 6] (bd Tryz.f3) := FnI.mk' Tryz.func3 rfl rfl rfl Tryz.call3
theorem i4 : FnI Tryz.prog 4 111 [.tmp 2] (bd Tryz.f4) := FnI.mk' Tryz.func4 rfl rfl rfl Tryz.call4
theorem i5 : FnI Tryz.prog 5 128 [.tmp 4] (bd Tryz.f5) := FnI.mk' Tryz.func5 rfl rfl rfl Tryz.call5
theorem i6 : FnI Tryz.prog 6 60 [.tmp 0] (bd Tryz.f6) := FnI.mk' Tryz.func6 rfl rfl rfl Tryz.call6
theorem i28 : FnI Tryz.prog 28 59 [.tmp 4, .tmp 5] (bd Tryz.f28) := FnI.mk' Tryz.func28 rfl rfl rfl Tryz.call28
theorem i32 : FnI Tryz.prog 32 34 [.tmp 4] (bd Tryz.f32) := FnI.mk' Tryz.func32 rfl rfl rfl Tryz.call32
theorem i33 : FnI Tryz.prog 33 10 [.tmp 0] (bd Tryz.f33) := FnI.mk' Tryz.func33 rfl rfl rfl Tryz.call33
theorem i55 : FnI Tryz.prog 55 9 [.tmp 4] (bd Tryz.f55) := FnI.mk' Tryz.func55 rfl rfl rfl Tryz.call55
theorem i56 : FnI Tryz.prog 56 7 [.tmp 3] (bd Tryz.f56) := FnI.mk' Tryz.func56 rfl rfl rfl Tryz.call56
theorem i63 : FnI Tryz.prog 63 15 [.tmp 3] (bd Tryz.f63) := FnI.mk' Tryz.func63 rfl rfl rfl Tryz.call63
theorem i64 : FnI Tryz.prog 64 9 [.tmp 4] (bd Tryz.f64) := FnI.mk' Tryz.func64 rfl rfl rfl Tryz.call64
theorem i65 : FnI Tryz.prog 65 9 [.tmp 4] (bd Tryz.f65) := FnI.mk' Tryz.func65 rfl rfl rfl Tryz.call65
theorem i66 : FnI Tryz.prog 66 8 [.tmp 2] (bd Tryz.f66) := FnI.mk' Tryz.func66 rfl rfl rfl Tryz.call66
theorem i71 : FnI Tryz.prog 71 14 [.tmp 2, .tmp 3] (bd Tryz.f71) := FnI.mk' Tryz.func71 rfl rfl rfl Tryz.call71
theorem i73 : FnI Tryz.prog 73 8 [.tmp 6] (bd Tryz.f73) := FnI.mk' Tryz.func73 rfl rfl rfl Tryz.call73
theorem i98 : FnI Tryz.prog 98 13 [.tmp 4] (bd Tryz.f98) := FnI.mk' Tryz.func98 rfl rfl rfl Tryz.call98
theorem i99 : FnI Tryz.prog 99 19 [.tmp 4] (bd Tryz.f99) := FnI.mk' Tryz.func99 rfl rfl rfl Tryz.call99
theorem i107 : FnI Tryz.prog 107 19 [.tmp 4] (bd Tryz.f107) := FnI.mk' Tryz.func107 rfl rfl rfl Tryz.call107
theorem i111 : FnI Tryz.prog 111 72 [] (bd Tryz.f111) := FnI.mk' Tryz.func111 rfl rfl rfl Tryz.call111
theorem i121 : FnI Tryz.prog 121 4 [.tmp 2] (bd Tryz.f121) := FnI.mk' Tryz.func121 rfl rfl rfl Tryz.call121
theorem i126 : FnI Tryz.prog 126 4 [.tmp 2] (bd Tryz.f126) := FnI.mk' Tryz.func126 rfl rfl rfl Tryz.call126
theorem i128 : FnI Tryz.prog 128 27 [] (bd Tryz.f128) := FnI.mk' Tryz.func128 rfl rfl rfl Tryz.call128
theorem i141 : FnI Tryz.prog 141 6 [.tmp 4] (bd Tryz.f141) := FnI.mk' Tryz.func141 rfl rfl rfl Tryz.call141
theorem i145 : FnI Tryz.prog 145 19 [.tmp 4, .tmp 5] (bd Tryz.f145) := FnI.mk' Tryz.func145 rfl rfl rfl Tryz.call145
theorem i146 : FnI Tryz.prog 146 14 [.tmp 2] (bd Tryz.f146) := FnI.mk' Tryz.func146 rfl rfl rfl Tryz.call146
theorem i153 : FnI Tryz.prog 153 21 [] (bd Tryz.f153) := FnI.mk' Tryz.func153 rfl rfl rfl Tryz.call153
theorem i154 : FnI Tryz.prog 154 8 [.tmp 2] (bd Tryz.f154) := FnI.mk' Tryz.func154 rfl rfl rfl Tryz.call154
theorem i156 : FnI Tryz.prog 156 9 [.tmp 2] (bd Tryz.f156) := FnI.mk' Tryz.func156 rfl rfl rfl Tryz.call156
theorem i157 : FnI Tryz.prog 157 9 [.tmp 4] (bd Tryz.f157) := FnI.mk' Tryz.func157 rfl rfl rfl Tryz.call157
theorem i158 : FnI Tryz.prog 158 5 [.tmp 2] (bd Tryz.f158) := FnI.mk' Tryz.func158 rfl rfl rfl Tryz.call158
theorem i159 : FnI Tryz.prog 159 11 [] (bd Tryz.f159) := FnI.mk' Tryz.func159 rfl rfl rfl Tryz.call159
theorem i160 : FnI Tryz.prog 160 61 [.tmp 2] (bd Tryz.f160) := FnI.mk' Tryz.func160 rfl rfl rfl Tryz.call160
theorem i165 : FnI Tryz.prog 165 19 [] (bd Tryz.f165) := FnI.mk' Tryz.func165 rfl rfl rfl Tryz.call165
theorem i170 : FnI Tryz.prog 170 29 [] (bd Tryz.f170) := FnI.mk' Tryz.func170 rfl rfl rfl Tryz.call170
theorem i175 : FnI Tryz.prog 175 20 [] (bd Tryz.f175) := FnI.mk' Tryz.func175 rfl rfl rfl Tryz.call175
theorem i178 : FnI Tryz.prog 178 19 [.tmp 4] (bd Tryz.f178) := FnI.mk' Tryz.func178 rfl rfl rfl Tryz.call178
theorem i179 : FnI Tryz.prog 179 134 [] (bd Tryz.f179) := FnI.mk' Tryz.func179 rfl rfl rfl Tryz.call179
theorem i181 : FnI Tryz.prog 181 8 [.tmp 2] (bd Tryz.f181) := FnI.mk' Tryz.func181 rfl rfl rfl Tryz.call181
theorem i199 : FnI Tryz.prog 199 49 [] (bd Tryz.f199) := FnI.mk' Tryz.func199 rfl rfl rfl Tryz.call199
theorem i208 : FnI Tryz.prog 208 12 [.tmp 4] (bd Tryz.f208) := FnI.mk' Tryz.func208 rfl rfl rfl Tryz.call208
theorem i227 : FnI Tryz.prog 227 16 [.tmp 4] (bd Tryz.f227) := FnI.mk' Tryz.func227 rfl rfl rfl Tryz.call227
theorem i228 : FnI Tryz.prog 228 22 [.tmp 4] (bd Tryz.f228) := FnI.mk' Tryz.func228 rfl rfl rfl Tryz.call228
theorem i231 : FnI Tryz.prog 231 10 [.tmp 4] (bd Tryz.f231) := FnI.mk' Tryz.func231 rfl rfl rfl Tryz.call231
end Go.Proofs.YthknbpijaoljgaaGreatDoor
namespace Go.Proofs.YthknbpijaoljgaaGreatDoor
open Go.Sy
def signB (c : UInt8) : Bool := decide (97 ≤ c.toNat ∧ c.toNat ≤ 122 ∨ 48 ≤ c.toNat ∧ c.toNat ≤ 57 ∨ c.toNat = 46 ∨ c.toNat = 95)
def nameB (s : List UInt8) : Bool := decide (1 ≤ s.length ∧ s.length ≤ 8 ∧ s ≠ [46] ∧ s ≠ [46, 46]) && s.all signB
def wordsC (c : UInt8) : List UInt8 → List (List UInt8)
 | [] => [[]]
 | b :: t => if b = c then [] :: wordsC c t else match wordsC c t with
  | [] => [[b]]
  | w :: r => (b :: w) :: r
def splitP (p : List UInt8) : List (List UInt8) × Int :=
 if p = [47] then ([], 0) else
 match p with
 | [] => ([], 9)
 | b :: r => if b = 47 then (if (wordsC 47 r).length ≤ 4 ∧ (wordsC 47 r).all nameB = true then (wordsC 47 r, 0) else ([], 9)) else ([], 9)
def joinP (l : List (List UInt8)) : List UInt8 := (l.map (fun w => 47 :: w)).flatten
structure Nod where
 p : List UInt8
 d : Bool
 x : List UInt8
deriving DecidableEq
def encN (n : Nod) : List D := [.st n.p, .bl n.d, .st n.x]
structure Chg where
 k : Int
 a : Nod
 b : Nod
deriving DecidableEq
def key (p : List UInt8) : List (List UInt8) := (splitP p).1
def cmpS (a b : List UInt8) : Int := if Op.bytesLess a b = true then -1 else if Op.bytesLess b a = true then 1 else 0
def cmpN : List (List UInt8) → List (List UInt8) → Int
 | [], [] => 0
 | [], _ :: _ => -1
 | _ :: _, [] => 1
 | x :: a, y :: b => if cmpS x y = 0 then cmpN a b else cmpS x y
def befN : List (List UInt8) → List (List UInt8) → Bool
 | x :: a, y :: b => if x = y then befN a b else Op.bytesLess x y
 | [], _ :: _ => true
 | _, [] => false
theorem less_irr : ∀ a : List UInt8, Op.bytesLess a a = false
 | [] => rfl
 | a :: t => by simp [Op.bytesLess, less_irr t]
theorem less_tri : ∀ a b : List UInt8, Op.bytesLess a b = false → Op.bytesLess b a = false → a = b
 | [], [], _, _ => rfl
 | [], _ :: _, h, _ => by simp [Op.bytesLess] at h
 | _ :: _, [], _, h => by simp [Op.bytesLess] at h
 | a :: s, b :: t, h, k => by
  simp only [Op.bytesLess, Bool.or_eq_false_iff, Bool.and_eq_false_iff, decide_eq_false_iff_not, beq_eq_false_iff_ne] at h k
  obtain ⟨h1, h2⟩ := h
  obtain ⟨k1, k2⟩ := k
  have e : a = b := by
   apply UInt8.toNat_inj.1
   rw [UInt8.lt_iff_toNat_lt] at h1 k1
   omega
  subst e
  rcases h2 with h2 | h2
  ·exact absurd rfl h2
  rcases k2 with k2 | k2
  ·exact absurd rfl k2
  rw [less_tri s t h2 k2]
theorem less_trans : ∀ a b c : List UInt8, Op.bytesLess a b = true → Op.bytesLess b c = true → Op.bytesLess a c = true
 | _, _, [], _, h => by simp [Op.bytesLess] at h
 | _, [], _ :: _, h, _ => by simp [Op.bytesLess] at h
 | [], _ :: _, _ :: _, _, _ => rfl
 | a :: s, b :: t, c :: u, h, k => by
  simp only [Op.bytesLess, Bool.or_eq_true, Bool.and_eq_true, decide_eq_true_eq, beq_iff_eq, UInt8.lt_iff_toNat_lt] at h k ⊢
  rcases h with h | ⟨rfl, h⟩
  ·rcases k with k | ⟨rfl, k⟩
   ·exact .inl (by omega)
   ·exact .inl h
  ·rcases k with k | ⟨rfl, k⟩
   ·exact .inl k
   ·exact .inr ⟨rfl, less_trans s t u h k⟩
theorem less_asy (a b : List UInt8) (h : Op.bytesLess a b = true) : Op.bytesLess b a = false := by
 cases hb : Op.bytesLess b a with
 | false => rfl
 | true => have := less_trans _ _ _ h hb; rw [less_irr] at this; cases this
theorem wordsC_ne (c : UInt8) (s : List UInt8) : wordsC c s ≠ [] := by
 cases s with
 | nil => simp [wordsC]
 | cons b t =>
  rw [wordsC]
  split
  ·simp
  ·split <;> simp
theorem joinP_words (s : List UInt8) : joinP (wordsC 47 s) = 47 :: s := by
 induction s with
 | nil => rfl
 | cons b t ih =>
  rw [wordsC]
  split
  ·rename_i h; subst h
   show 47 :: ([] ++ joinP (wordsC 47 t)) = _
   rw [ih]; rfl
  ·cases ht : wordsC 47 t with
   | nil => exact absurd ht (wordsC_ne 47 t)
   | cons w r =>
    rw [ht] at ih
    have e : joinP (w :: r) = 47 :: (w ++ joinP r) := rfl
    have e' : joinP ((b :: w) :: r) = 47 :: b :: (w ++ joinP r) := rfl
    rw [e] at ih
    simp only [e']
    rw [List.cons.inj ih |>.2]
def lt (x y : Nod) : Prop := cmpN (key x.p) (key y.p) < 0
def atP (l : List Nod) (p : List UInt8) : Option Nod := l.find? (fun x => x.p == p)
def allD (a b : List Nod) : List Nod := a ++ b.filter (fun y => (atP a y.p).isNone)
end Go.Proofs.YthknbpijaoljgaaGreatDoor
namespace Go.Proofs.YthknbpijaoljgaaGreatDoor
open Go.Sy
theorem mixed : Tryz.prog.follows .mixedOrders = true := by kernel_rfl
theorem gA {p q : Prop} (k : q) (h : q → p := by intro k; with_reducible first | exact Spl.tt k | exact Spl.ff k) : p := h k
theorem gB {p q : Prop} (k : q) (h : q → p := by intro k; with_reducible first | exact draw_auto ti_ok mixed (by decide +kernel) k | exact g_i64 k | exact g_u64 k | exact g_u8 k | exact g_iq k | exact g_uq k | exact g_rem k | exact LetN.mk k | exact g_hm k | exact g_hb k | exact g_lit k) : p := h k
theorem gZ {p : Prop} {α : Type} {A B C : α → Prop} (k : ∀ x, A x → B x → C x) (h : (∀ x, A x → B x → C x) → p := by intro k; with_reducible first | exact g_nm8 k | exact g_n8 k | exact g_b8 k) : p := h k
theorem gY {p : Prop} {α : Type} {A B : α → Prop} (k : ∀ x, A x → B x) (h : (∀ x, A x → B x) → p := by intro k; with_reducible first | exact g_nm k | exact g_im k | exact g_n k | exact g_b k) : p := h k
theorem gE {p q : Prop} (k : q) (h : q → p := by intro k; with_reducible first | exact g_and k | exact g_c k | exact NilS.ts k | exact LetE.now k | exact AtD.now k | exact LetC.now k | exact g_some k | exact g_yk k | exact g_nk k | exact g_y k | exact g_f k | exact AtA.mk' k) : p := h k
theorem gS {p a b A B : Prop} (k : a → A) (l : b → B) (h : (a → A) → (b → B) → p := by intro k l; with_reducible first | exact Spl.pd k l | exact Spl.peq k l | exact Spl.pne k l | exact Spl.seq k l | exact Spl.sne k l) : p := h k l
theorem noEsc (u : Value) (w : World) : (callFunc 197 #[u]).run Tryz.prog w = .ok (.value u) w := by
 rw [run_callFunc_extern Tryz.func197 (by kernel_rfl) (by kernel_rfl) (by kernel_rfl) (e := Extern.AbiNoEscape.same) (by kernel_rfl), Lib.run_noEscape]
 rfl
theorem nameB_no {s : List UInt8} (h : ¬ (1 ≤ s.length ∧ s.length ≤ 8 ∧ s ≠ [46] ∧ s ≠ [46, 46])) : nameB s = false := by rw [nameB, decide_eq_false h]; rfl
theorem nameB_yes {s : List UInt8} (h1 : 1 ≤ s.length) (h2 : s.length ≤ 8) (h3 : ¬ s = [46]) (h4 : ¬ s = [46, 46]) : nameB s = s.all signB := by rw [nameB, decide_eq_true ⟨h1, h2, h3, h4⟩]; rfl
def signs : List UInt8 := [97, 98, 99, 100, 101, 102, 103, 104, 105, 106, 107, 108, 109, 110, 111, 112, 113, 114, 115, 116, 117, 118, 119, 120, 121, 122, 48, 49, 50, 51, 52, 53, 54, 55, 56, 57, 46, 95]
def tabS (l : List UInt8) : List D := (List.range 256).map fun j => .bl (l.any fun c => c.toNat == j)
theorem all_d (l : List D) (m : Nat) : (l.map AV.d).all (AV.lt1 m) = true := by
 rw [List.all_eq_true]
 intro x hx
 obtain ⟨b, _, rfl⟩ := List.mem_map.1 hx
 rfl
theorem tabS_upd {l : List UInt8} {c : UInt8} : ((tabS l).map AV.d).take c.toNat ++ [AV.d (.bl true)] ++ ((tabS l).map AV.d).drop (c.toNat + 1) = (tabS (l ++ [c])).map AV.d := by
 have hc := c.toNat_lt
 apply List.ext_getElem
 ·simp [tabS]; omega
 ·intro i h1 h2
  simp only [tabS, List.length_map, List.length_range] at h2
  rcases Nat.lt_trichotomy i c.toNat with h | h | h
  ·rw [List.getElem_append_left (by simp [tabS]; omega), List.getElem_append_left (by simp [tabS]; omega)]
   simp [tabS, show ¬ c.toNat = i by omega]
  ·subst h
   rw [List.getElem_append_left (by simp [tabS]; omega), List.getElem_append_right (by simp [tabS]; omega)]
   simp [tabS]
  ·rw [List.getElem_append_right (by simp [tabS]; omega)]
   simp [tabS, show ¬ c.toNat = i by omega, show c.toNat + 1 + (i - (min c.toNat 256 + 1)) = i by omega]
theorem makeSet_ok : FnC Tryz.prog 226 [.d (.st signs)] (.tup [.dg 256 (tabS signs), .d (.bl true)]) := by
 refine FnC.intro ti_ok Tryz.func226 rfl Tryz.ntmps226 Tryz.call226 rfl (Nat.le_of_ble_eq_true rfl) rfl ?_
 (repeat' ((conv=>whnf);first|with_reducible refine gA ?_|(with_reducible first|refine gB ?_|refine gZ (fun x hx hu=>?_)|refine gY (fun x hx=>?_)|refine gE ?_|refine Both.mk ?_ ?_|refine gS (fun h=>?_) (fun h=>?_)|refine Spl.nt ?_|refine Spl.mk (fun h=>?_) (fun h=>?_))))
 refine loop_rule ti_ok (fun k : Nat => k ≤ signs.length) (fun k => ⟨[(0, .d (.st signs)), (2, .ptr 0 0), (4, .d (.it .i64 k))], [(0, .cells 256 ((tabS (signs.take k)).map .d))], 1⟩) (fun k => signs.length - k) 0 (Nat.zero_le _) ⟨⟨rfl, rfl, rfl, trivial⟩, ⟨?_, trivial⟩, ?_⟩ ?_
 ·refine cells_eq rfl (by kernel_rfl)
 ·simp only [S.ok, List.all_cons, List.all_nil, Ob.lt, all_d]; rfl
 have hlow : ∀ c ∈ signs, c.toNat < 128 := by decide
 have hl38 : signs.length = 38 := rfl
 intro k hk
 (repeat' ((conv=>whnf);first|with_reducible refine gA ?_|(with_reducible first|refine gB ?_|refine gZ (fun x hx hu=>?_)|refine gY (fun x hx=>?_)|refine gE ?_|refine Both.mk ?_ ?_|refine gS (fun h=>?_) (fun h=>?_)|refine Spl.nt ?_|refine Spl.mk (fun h=>?_) (fun h=>?_))))
 ·have := hlow x (List.mem_of_getElem? hx); omega
 ·refine again (k + 1) (by omega) (by dsimp only; omega) (And.intro rfl (And.intro rfl (And.intro rfl trivial))) (And.intro (cells_eq rfl ?_) trivial) ?_
  ·rw [take_snoc hx, ← tabS_upd]
   simp only [Nat.zero_add, Int.toNat_natCast, Nat.mul_one]; rfl
  ·simp only [S.ok, List.all_cons, List.all_nil, Ob.lt, all_d]; rfl
 ·obtain rfl : k = signs.length := by omega
  (repeat' ((conv=>whnf);first|with_reducible refine gA ?_|with_reducible refine AtA.mk' ?_|(with_reducible first|refine gB ?_|refine gZ (fun x hx hu=>?_)|refine gY (fun x hx=>?_)|refine gE ?_|refine Both.mk ?_ ?_|refine gS (fun h=>?_) (fun h=>?_)|refine Spl.nt ?_|refine Spl.mk (fun h=>?_) (fun h=>?_))))
  rfl
end Go.Proofs.YthknbpijaoljgaaGreatDoor
namespace Go.Proofs.YthknbpijaoljgaaGreatDoor
open Go.Sy
def trimR (s : List UInt8) : List UInt8 := (s.reverse.dropWhile signB).reverse
def trimS (s : List UInt8) : List UInt8 := (trimR s).dropWhile signB
theorem tab_get (c : UInt8) : ((tabS signs).map AV.d).getD c.toNat .junk = .d (.bl (signB c)) := by
 have : ∀ n, n < 256 → (signs.any fun c => c.toNat == n) = decide (97 ≤ n ∧ n ≤ 122 ∨ 48 ≤ n ∧ n ≤ 57 ∨ n = 46 ∨ n = 95) := by decide +kernel
 have hc := c.toNat_lt
 rw [List.getD, List.getElem?_eq_getElem (by simp [tabS]; omega)]
 simp only [tabS, List.getElem_map, List.getElem_range, Option.getD_some, signB]
 rw [this _ (by omega)]
theorem tab_ld {tab : List D} (ht : tab = tabS signs) (off : Nat) (c : UInt8) (h : off = c.toNat) : ldA ⟨.bool, 1, 1, [.bl false], some [.bl false], []⟩ off (List.map AV.d tab) = .d (.bl (signB c)) := by
 subst h ht
 have := tab_get c
 simpa [ldA, Kd.agg] using this
theorem trimR_0 {s t : List UInt8} (h : s = [] ++ t) (ht : t.all signB = true) : trimR s = [] := by
 subst h
 have key : ∀ l : List UInt8, l.all signB = true → l.dropWhile signB = [] := by
  intro l
  induction l with
  | nil => intro _; rfl
  | cons a l ih =>
   intro h
   rw [List.all_cons, Bool.and_eq_true] at h
   rw [List.dropWhile_cons_of_pos h.1, ih h.2]
 rw [trimR, List.reverse_eq_nil_iff]
 exact key _ (by rw [List.all_reverse]; simpa using ht)
theorem trimR_1 {s r t : List UInt8} {c : UInt8} (h : s = (r ++ [c]) ++ t) (ht : t.all signB = true) (hc : signB c = false) : trimR s = r ++ [c] := by
 subst h
 have e : ((r ++ [c]) ++ t).reverse = t.reverse ++ c :: r.reverse := by simp
 rw [trimR, e, List.dropWhile_append_of_pos (fun x hx => List.all_eq_true.1 ht x (List.mem_reverse.1 hx)), List.dropWhile_cons_of_neg (by simp [hc])]
 simp
theorem last_split {r : List UInt8} {x : UInt8} (h : r[r.length - 1]? = some x) : r = r.take (r.length - 1) ++ [x] := by
 have hl : r.length - 1 < r.length := by
  obtain ⟨hk, _⟩ := List.getElem?_eq_some_iff.1 h
  exact hk
 rw [← take_snoc h, show r.length - 1 + 1 = r.length by omega, List.take_length]
theorem cons_drop {u : List UInt8} {x : UInt8} (h : u[(0 : Int).toNat]? = some x) : u = [x] ++ u.drop 1 := by
 cases u with
 | nil => cases h
 | cons a u => obtain rfl : a = x := Option.some.inj h; rfl
theorem dropW_1 {r t u : List UInt8} {x : UInt8} (h : r = t ++ u) (ht : t.all signB = true) (hx : u[(0 : Int).toNat]? = some x) (hc : signB x = false) : r.dropWhile signB = u := by
 rw [h, List.dropWhile_append_of_pos (fun x hx => List.all_eq_true.1 ht x hx), cons_drop hx]
 exact List.dropWhile_cons_of_neg (by simp [hc])
theorem dropW_0 {r t u : List UInt8} (h : r = t ++ u) (ht : t.all signB = true) (hu : u.length = 0) : r.dropWhile signB = u := by
 obtain rfl := List.length_eq_zero_iff.1 hu
 rw [h, List.dropWhile_append_of_pos (fun x hx => List.all_eq_true.1 ht x hx)]; rfl
theorem trim_ok (s : List UInt8) (h0 : s ≠ []) (hs : s.length ≤ 1000000) : FnC Tryz.prog 221 [.d (.st s), .d (.st signs)] (.d (.st (trimS s))) := by
 refine FnC.intro ti_ok Tryz.func221 rfl Tryz.ntmps221 Tryz.call221 rfl (Nat.le_of_ble_eq_true rfl) rfl ?_
 obtain ⟨tab, ht⟩ : ∃ t, t = tabS signs := ⟨_, rfl⟩
 have hm := makeSet_ok
 rw [← ht] at hm
 (repeat' ((conv=>whnf);first|with_reducible refine gA ?_|with_reducible refine CallE.con ⟨_, hm, ?_⟩ | with_reducible refine CallI.inl ti_ok i228 rfl ?_|(with_reducible first|refine gB ?_|refine gZ (fun x hx hu=>?_)|refine gY (fun x hx=>?_)|refine gE ?_|refine Both.mk ?_ ?_|refine gS (fun h=>?_) (fun h=>?_)|refine Spl.nt ?_|refine Spl.mk (fun h=>?_) (fun h=>?_))))
 refine loop_mem ti_ok (fun r : List UInt8 => ∃ t, s = r ++ t ∧ t.all signB = true) (fun r => [(0, .d (.st r)), (1, .ptr 0 0)]) (fun _ => [(0, .cells 256 (tab.map .d))]) [0] (fun r => r.length) s ⟨[], by simp, rfl⟩ ⟨rfl, rfl, trivial⟩ ⟨cells_eq rfl (by rw [show List.drop (0 + 256) _ = [] from rfl, List.append_nil]; rfl), entL_nub _ _⟩ rfl (by simp only [List.all_cons, List.all_nil, Ob.lt, all_d]; rfl) ?_
 intro r ⟨t, hr, ha⟩
 have hrl : r.length + t.length = s.length := by rw [hr, List.length_append]
 (repeat' ((conv=>whnf);first|with_reducible refine gA ?_|with_reducible refine CallI.inl ti_ok i231 rfl ?_ | with_reducible refine AtA.eq (by with_unfolding_all exact tab_ld ht _ x (by first | omega | (dsimp only; omega) | simp)) ?_|(with_reducible first|refine gB ?_|refine gZ (fun x hx hu=>?_)|refine gY (fun x hx=>?_)|refine gE ?_|refine Both.mk ?_ ?_|refine gS (fun h=>?_) (fun h=>?_)|refine Spl.nt ?_|refine Spl.mk (fun h=>?_) (fun h=>?_))))
 ·rename_i hx0
  have hx' : r[r.length - 1]? = some x := by rw [show r.length - 1 = ((r.length : Int) - 1).toNat by omega]; exact hx
  have hsp := last_split hx'
  refine againM (r.take (r.length - 1)) ⟨[x] ++ t, by rw [← List.append_assoc, ← hsp]; exact hr, by rw [List.all_append, ha, Bool.and_true]; simpa using h⟩ (by dsimp only; rw [List.length_take]; omega) (And.intro (st_eq ?_) (And.intro rfl trivial)) (And.intro rfl ?_) rfl (by simp only [List.all_cons, List.all_nil, Ob.lt, all_d]; rfl)
  ·rw [show ((r.length : Int) - 1).toNat = r.length - 1 by omega]
  ·(repeat (first | exact trivial | refine And.intro rfl ?_))
 ·have hx' : r[r.length - 1]? = some x := by rw [show r.length - 1 = ((r.length : Int) - 1).toNat by omega]; exact hx
  have hsp := last_split hx'
  have h2 := hr
  rw [hsp] at h2
  have hw : trimS s = r.dropWhile signB := by rw [trimS, trimR_1 h2 ha (by simpa using h), ← hsp]
  (repeat' ((conv=>whnf);first|with_reducible refine gA ?_|with_reducible refine CallI.inl ti_ok i227 rfl ?_|(with_reducible first|refine gB ?_|refine gZ (fun x hx hu=>?_)|refine gY (fun x hx=>?_)|refine gE ?_|refine Both.mk ?_ ?_|refine gS (fun h=>?_) (fun h=>?_)|refine Spl.nt ?_|refine Spl.mk (fun h=>?_) (fun h=>?_))))
  refine loop_mem ti_ok (fun u : List UInt8 => ∃ t, r = t ++ u ∧ t.all signB = true) (fun u => [(0, .d (.st u)), (1, .ptr 0 0)]) (fun _ => [(0, .cells 256 (tab.map .d))]) [0] (fun u => u.length) r ⟨[], rfl, rfl⟩ ⟨rfl, rfl, trivial⟩ ⟨rfl, entL_nub _ _⟩ rfl (by simp only [List.all_cons, List.all_nil, Ob.lt, all_d]; rfl) ?_
  intro u ⟨t', hu', ha'⟩
  (repeat' ((conv=>whnf);first|with_reducible refine gA ?_|with_reducible refine CallI.inl ti_ok i231 rfl ?_ | with_reducible refine AtA.eq (by with_unfolding_all exact tab_ld ht _ x (by first | omega | (dsimp only; omega) | simp)) ?_|(with_reducible first|refine gB ?_|refine gZ (fun x hx hu=>?_)|refine gY (fun x hx=>?_)|refine gE ?_|refine Both.mk ?_ ?_|refine gS (fun h=>?_) (fun h=>?_)|refine Spl.nt ?_|refine Spl.mk (fun h=>?_) (fun h=>?_))))
  ·refine againM (u.drop 1) ⟨t' ++ [x], ?_, ?_⟩ (by dsimp only; rw [List.length_drop]; omega) (And.intro (st_eq ?_) (And.intro rfl trivial)) (And.intro rfl ?_) rfl (by simp only [List.all_cons, List.all_nil, Ob.lt, all_d]; rfl)
   ·rw [List.append_assoc, hu']; congr 1; exact cons_drop hx
   ·rw [List.all_append, ha', Bool.true_and]; simpa using h
   ·simp
   ·(repeat (first | exact trivial | refine And.intro rfl ?_))
  ·exact st_eq (hw.trans (dropW_1 hu' ha' hx (by simpa using h))).symm
  ·exact st_eq (hw.trans (dropW_0 hu' ha' (by omega))).symm
 ·have hw : trimS s = r.dropWhile signB := by
   have hr0 : r = [] := List.length_eq_zero_iff.1 (by omega)
   rw [hr0] at hr
   rw [trimS, trimR_0 hr ha, hr0]
  (repeat' ((conv=>whnf);first|with_reducible refine gA ?_|with_reducible refine CallI.inl ti_ok i227 rfl ?_|(with_reducible first|refine gB ?_|refine gZ (fun x hx hu=>?_)|refine gY (fun x hx=>?_)|refine gE ?_|refine Both.mk ?_ ?_|refine gS (fun h=>?_) (fun h=>?_)|refine Spl.nt ?_|refine Spl.mk (fun h=>?_) (fun h=>?_))))
  refine loop_mem ti_ok (fun u : List UInt8 => ∃ t, r = t ++ u ∧ t.all signB = true) (fun u => [(0, .d (.st u)), (1, .ptr 0 0)]) (fun _ => [(0, .cells 256 (tab.map .d))]) [0] (fun u => u.length) r ⟨[], rfl, rfl⟩ ⟨rfl, rfl, trivial⟩ ⟨rfl, entL_nub _ _⟩ rfl (by simp only [List.all_cons, List.all_nil, Ob.lt, all_d]; rfl) ?_
  intro u ⟨t', hu', ha'⟩
  (repeat' ((conv=>whnf);first|with_reducible refine gA ?_|with_reducible refine CallI.inl ti_ok i231 rfl ?_ | with_reducible refine AtA.eq (by with_unfolding_all exact tab_ld ht _ x (by first | omega | (dsimp only; omega) | simp)) ?_|(with_reducible first|refine gB ?_|refine gZ (fun x hx hu=>?_)|refine gY (fun x hx=>?_)|refine gE ?_|refine Both.mk ?_ ?_|refine gS (fun h=>?_) (fun h=>?_)|refine Spl.nt ?_|refine Spl.mk (fun h=>?_) (fun h=>?_))))
  ·refine againM (u.drop 1) ⟨t' ++ [x], ?_, ?_⟩ (by dsimp only; rw [List.length_drop]; omega) (And.intro (st_eq ?_) (And.intro rfl trivial)) (And.intro rfl ?_) rfl (by simp only [List.all_cons, List.all_nil, Ob.lt, all_d]; rfl)
   ·rw [List.append_assoc, hu']; congr 1; exact cons_drop hx
   ·rw [List.all_append, ha', Bool.true_and]; simpa using h
   ·simp
   ·(repeat (first | exact trivial | refine And.intro rfl ?_))
  ·exact st_eq (hw.trans (dropW_1 hu' ha' hx (by simpa using h))).symm
  ·exact st_eq (hw.trans (dropW_0 hu' ha' (by omega))).symm
end Go.Proofs.YthknbpijaoljgaaGreatDoor
namespace Go.Proofs
open Go.Shelf
def Tryz.lays156_ren : Go.Shelf.Ren := ⟨fun | 156 => 144 | 165 => 173 | 166 => 174 | 169 => 146 | 240 => 175 | 241 => 196 | 276 => 197 | 277 => 216 | n => n, fun | 31 => 181 | 9 => 9 | 3 => 3 | 4 => 4 | 0 => 0 | 20 => 20 | 72 => 221 | 76 => 224 | 70 => 219 | 37 => 179 | 75 => 223 | 127 => 241 | 164 => 260 | 5 => 5 | 80 => 226 | n => n, fun | n => n⟩
theorem Tryz.lays156 : Go.Proofs.Lays.n156 Tryz.prog Tryz.lays156_ren := {
 mixed := by kernel_rfl
 f156 := Tryz.func144.trans (congrArg some (by kernel_rfl))
 f165 := Tryz.func173.trans (congrArg some (by kernel_rfl))
 f166 := Tryz.func174.trans (congrArg some (by kernel_rfl))
 f169 := Tryz.func146.trans (congrArg some (by kernel_rfl))
 f240 := Tryz.func175.trans (congrArg some (by kernel_rfl))
 f241 := Tryz.func196.trans (congrArg some (by kernel_rfl))
 f276 := Tryz.func197.trans (congrArg some (by kernel_rfl))
 f277 := Tryz.func216.trans (congrArg some (by kernel_rfl))
 t0 := Tryz.underlying0
 a0 := Tryz.isAgg0
 z0 := Tryz.sizeOf0
 v0 := Tryz.zeroValue0
 t3 := Tryz.underlying3
 a3 := Tryz.isAgg3
 z3 := Tryz.sizeOf3
 v3 := Tryz.zeroValue3
 t4 := Tryz.underlying4
 a4 := Tryz.isAgg4
 z4 := Tryz.sizeOf4
 v4 := Tryz.zeroValue4
 t9 := Tryz.underlying9
 a9 := Tryz.isAgg9
 z9 := Tryz.sizeOf9
 v9 := Tryz.zeroValue9
 t20 := Tryz.underlying20
 a20 := Tryz.isAgg20
 z20 := Tryz.sizeOf20
 v20 := Tryz.zeroValue20
 t31 := Tryz.underlying181
 a31 := Tryz.isAgg181
 z31 := Tryz.sizeOf181
 v31 := Tryz.zeroValue181
 t37 := Tryz.underlying179
 a37 := Tryz.isAgg179
 z37 := Tryz.sizeOf179
 v37 := Tryz.zeroValue179
 t70 := Tryz.underlying219
 a70 := Tryz.isAgg219
 z70 := Tryz.sizeOf219
 v70 := Tryz.zeroValue219
 t72 := Tryz.underlying221
 a72 := Tryz.isAgg221
 z72 := Tryz.sizeOf221
 v72 := Tryz.zeroValue221
 t75 := Tryz.underlying223
 a75 := Tryz.isAgg223
 z75 := Tryz.sizeOf223
 v75 := Tryz.zeroValue223
 t76 := Tryz.underlying224
 a76 := Tryz.isAgg224
 z76 := Tryz.sizeOf224
 v76 := Tryz.zeroValue224
 t127 := Tryz.underlying241
 a127 := Tryz.isAgg241
 z127 := Tryz.sizeOf241
 v127 := Tryz.zeroValue241
 t164 := Tryz.underlying260
 a164 := Tryz.isAgg260
 z164 := Tryz.sizeOf260
 v164 := Tryz.zeroValue260 }
theorem Tryz.Builder_Extra_156 : Builder.Extra Tryz.prog Tryz.lays156_ren := {
 sizeBuilder := by kernel_rfl
 liesBuilder := by kernel_rfl
 t5 := Tryz.underlying5
 a5 := Tryz.isAgg5
 z5 := Tryz.sizeOf5
 v5 := Tryz.zeroValue5
 infoByte := by kernel_rfl
 cellsByte := by kernel_rfl
 sizeByte := by kernel_rfl
 neB5 := by decide }
open Go.RowKit in
theorem Tryz.strings_Join_none (a : Option Addr) (c : Nat) (sep : ByteArray) (w : World) :
  Calls Tryz.prog 144 #[.slice a 0 c, .string sep] w fun e w' => e = .returned (.string ⟨#[]⟩) ∧ w' = w := Any.strings_Join_none Tryz.lays156 Tryz.Builder_Extra_156 a c sep w
open Go.RowKit in
theorem Tryz.strings_Join (bk o c : Nat) (xs : List ByteArray) (sep : ByteArray) (w : World) (hcells : ∀ (j : Nat) x, xs[j]? = some x → w.cell? ⟨bk, o + j, none⟩ = some (.string x)) (hbk : bk < w.heap.size) (hN : xs.length ≤ 140737488355328) (hcap : xs.length ≤ c) (hlen : (Lib.join (xs.map (·.data.toList)) sep.data.toList).length ≤ 140737488355328) :
  Calls Tryz.prog 144 #[.slice (some ⟨bk, o, none⟩) xs.length c, .string sep] w fun e w' => e = .returned (.string ⟨(Lib.join (xs.map (·.data.toList)) sep.data.toList).toArray⟩) ∧ Below w.heap.size w w' := Any.strings_Join Tryz.lays156 Tryz.Builder_Extra_156 bk o c xs sep w hcells hbk hN hcap hlen
def Tryz.lays189_ren : Go.Shelf.Ren := ⟨fun | 189 => 159 | 125 => 172 | 257 => 179 | 128 => 194 | 129 => 195 | 294 => 199 | 295 => 200 | 296 => 201 | 297 => 202 | 298 => 203 | 299 => 204 | 216 => 205 | 300 => 206 | 301 => 207 | 328 => 217 | 329 => 211 | 330 => 212 | 331 => 218 | 332 => 219 | 215 => 220 | 343 => 223 | n => n, fun | 28 => 24 | 3 => 3 | 46 => 178 | 0 => 0 | 51 => 258 | 53 => 68 | 4 => 4 | 183 => 251 | 182 => 250 | 131 => 184 | 5 => 5 | 9 => 9 | 218 => 268 | 222 => 272 | 228 => 278 | 229 => 92 | n => n, fun | n => n⟩
theorem Tryz.lays189 : Go.Proofs.Lays.n189 Tryz.prog Tryz.lays189_ren := {
 mixed := by kernel_rfl
 f125 := Tryz.func172.trans (congrArg some (by kernel_rfl))
 f128 := Tryz.func194.trans (congrArg some (by kernel_rfl))
 f129 := Tryz.func195.trans (congrArg some (by kernel_rfl))
 f189 := Tryz.func159.trans (congrArg some (by kernel_rfl))
 f215 := Tryz.func220.trans (congrArg some (by kernel_rfl))
 f216 := Tryz.func205.trans (congrArg some (by kernel_rfl))
 f257 := Tryz.func179.trans (congrArg some (by kernel_rfl))
 f294 := Tryz.func199.trans (congrArg some (by kernel_rfl))
 f295 := Tryz.func200.trans (congrArg some (by kernel_rfl))
 f296 := Tryz.func201.trans (congrArg some (by kernel_rfl))
 f297 := Tryz.func202.trans (congrArg some (by kernel_rfl))
 f298 := Tryz.func203.trans (congrArg some (by kernel_rfl))
 f299 := Tryz.func204.trans (congrArg some (by kernel_rfl))
 f300 := Tryz.func206.trans (congrArg some (by kernel_rfl))
 f301 := Tryz.func207.trans (congrArg some (by kernel_rfl))
 f328 := Tryz.func217.trans (congrArg some (by kernel_rfl))
 f329 := Tryz.func211.trans (congrArg some (by kernel_rfl))
 f330 := Tryz.func212.trans (congrArg some (by kernel_rfl))
 f331 := Tryz.func218.trans (congrArg some (by kernel_rfl))
 f332 := Tryz.func219.trans (congrArg some (by kernel_rfl))
 f343 := Tryz.func223.trans (congrArg some (by kernel_rfl))
 t0 := Tryz.underlying0
 a0 := Tryz.isAgg0
 z0 := Tryz.sizeOf0
 v0 := Tryz.zeroValue0
 t3 := Tryz.underlying3
 a3 := Tryz.isAgg3
 z3 := Tryz.sizeOf3
 v3 := Tryz.zeroValue3
 t4 := Tryz.underlying4
 a4 := Tryz.isAgg4
 z4 := Tryz.sizeOf4
 v4 := Tryz.zeroValue4
 t5 := Tryz.underlying5
 a5 := Tryz.isAgg5
 z5 := Tryz.sizeOf5
 v5 := Tryz.zeroValue5
 t9 := Tryz.underlying9
 a9 := Tryz.isAgg9
 z9 := Tryz.sizeOf9
 v9 := Tryz.zeroValue9
 t28 := Tryz.underlying24
 a28 := Tryz.isAgg24
 z28 := Tryz.sizeOf24
 v28 := Tryz.zeroValue24
 t46 := Tryz.underlying178
 a46 := Tryz.isAgg178
 z46 := Tryz.sizeOf178
 v46 := Tryz.zeroValue178
 t51 := Tryz.underlying258
 a51 := Tryz.isAgg258
 z51 := Tryz.sizeOf258
 v51 := Tryz.zeroValue258
 t53 := Tryz.underlying68
 a53 := Tryz.isAgg68
 z53 := Tryz.sizeOf68
 v53 := Tryz.zeroValue68
 t131 := Tryz.underlying184
 a131 := Tryz.isAgg184
 z131 := Tryz.sizeOf184
 v131 := Tryz.zeroValue184
 t182 := Tryz.underlying250
 a182 := Tryz.isAgg250
 z182 := Tryz.sizeOf250
 v182 := Tryz.zeroValue250
 t183 := Tryz.underlying251
 a183 := Tryz.isAgg251
 z183 := Tryz.sizeOf251
 v183 := Tryz.zeroValue251
 t218 := Tryz.underlying268
 a218 := Tryz.isAgg268
 z218 := Tryz.sizeOf268
 v218 := Tryz.zeroValue268
 t222 := Tryz.underlying272
 a222 := Tryz.isAgg272
 z222 := Tryz.sizeOf272
 v222 := Tryz.zeroValue272
 t228 := Tryz.underlying278
 a228 := Tryz.isAgg278
 z228 := Tryz.sizeOf278
 v228 := Tryz.zeroValue278
 t229 := Tryz.underlying92
 a229 := Tryz.isAgg92
 z229 := Tryz.sizeOf92
 v229 := Tryz.zeroValue92 }
open Go.Sort Go.RowKit in
theorem Tryz.slices_Sort_int (blk off cap : Nat) (zs : List Int) (w : World) (hH : Holds (Value.int .i64) w blk off zs.toArray) (hblk : blk < w.heap.size) (hsz : zs.length < 4611686018427387904) :
  Calls Tryz.prog 159 #[.slice (some ⟨blk, off, none⟩) zs.length cap] w fun e w' =>
   e = .returned (.tuple #[]) ∧ ∃ n os, w' = grow (putRow (Value.int .i64) (Sort.ahead w n) blk off (zs.mergeSort fun x y => decide (x ≤ y)).toArray) os := Any.slices_Sort_int Tryz.lays189 blk off cap zs w hH hblk hsz
def Tryz.lays190_ren : Go.Shelf.Ren := ⟨fun | 190 => 142 | 125 => 172 | 258 => 171 | 128 => 194 | 129 => 195 | 302 => 185 | 303 => 186 | 304 => 187 | 305 => 188 | 306 => 189 | 307 => 190 | 308 => 191 | 309 => 192 | 310 => 193 | 333 => 210 | 329 => 211 | 330 => 212 | 334 => 213 | 335 => 214 | 336 => 215 | 344 => 222 | n => n, fun | 31 => 181 | 9 => 9 | 3 => 3 | 46 => 178 | 0 => 0 | 51 => 258 | 53 => 68 | 4 => 4 | 183 => 251 | 182 => 250 | 131 => 184 | 5 => 5 | 218 => 268 | 222 => 272 | 228 => 278 | 229 => 92 | n => n, fun | n => n⟩
theorem Tryz.lays190 : Go.Proofs.Lays.n190 Tryz.prog Tryz.lays190_ren := {
 mixed := by kernel_rfl
 f125 := Tryz.func172.trans (congrArg some (by kernel_rfl))
 f128 := Tryz.func194.trans (congrArg some (by kernel_rfl))
 f129 := Tryz.func195.trans (congrArg some (by kernel_rfl))
 f190 := Tryz.func142.trans (congrArg some (by kernel_rfl))
 f258 := Tryz.func171.trans (congrArg some (by kernel_rfl))
 f302 := Tryz.func185.trans (congrArg some (by kernel_rfl))
 f303 := Tryz.func186.trans (congrArg some (by kernel_rfl))
 f304 := Tryz.func187.trans (congrArg some (by kernel_rfl))
 f305 := Tryz.func188.trans (congrArg some (by kernel_rfl))
 f306 := Tryz.func189.trans (congrArg some (by kernel_rfl))
 f307 := Tryz.func190.trans (congrArg some (by kernel_rfl))
 f308 := Tryz.func191.trans (congrArg some (by kernel_rfl))
 f309 := Tryz.func192.trans (congrArg some (by kernel_rfl))
 f310 := Tryz.func193.trans (congrArg some (by kernel_rfl))
 f329 := Tryz.func211.trans (congrArg some (by kernel_rfl))
 f330 := Tryz.func212.trans (congrArg some (by kernel_rfl))
 f333 := Tryz.func210.trans (congrArg some (by kernel_rfl))
 f334 := Tryz.func213.trans (congrArg some (by kernel_rfl))
 f335 := Tryz.func214.trans (congrArg some (by kernel_rfl))
 f336 := Tryz.func215.trans (congrArg some (by kernel_rfl))
 f344 := Tryz.func222.trans (congrArg some (by kernel_rfl))
 t0 := Tryz.underlying0
 a0 := Tryz.isAgg0
 z0 := Tryz.sizeOf0
 v0 := Tryz.zeroValue0
 t3 := Tryz.underlying3
 a3 := Tryz.isAgg3
 z3 := Tryz.sizeOf3
 v3 := Tryz.zeroValue3
 t4 := Tryz.underlying4
 a4 := Tryz.isAgg4
 z4 := Tryz.sizeOf4
 v4 := Tryz.zeroValue4
 t5 := Tryz.underlying5
 a5 := Tryz.isAgg5
 z5 := Tryz.sizeOf5
 v5 := Tryz.zeroValue5
 t9 := Tryz.underlying9
 a9 := Tryz.isAgg9
 z9 := Tryz.sizeOf9
 v9 := Tryz.zeroValue9
 t31 := Tryz.underlying181
 a31 := Tryz.isAgg181
 z31 := Tryz.sizeOf181
 v31 := Tryz.zeroValue181
 t46 := Tryz.underlying178
 a46 := Tryz.isAgg178
 z46 := Tryz.sizeOf178
 v46 := Tryz.zeroValue178
 t51 := Tryz.underlying258
 a51 := Tryz.isAgg258
 z51 := Tryz.sizeOf258
 v51 := Tryz.zeroValue258
 t53 := Tryz.underlying68
 a53 := Tryz.isAgg68
 z53 := Tryz.sizeOf68
 v53 := Tryz.zeroValue68
 t131 := Tryz.underlying184
 a131 := Tryz.isAgg184
 z131 := Tryz.sizeOf184
 v131 := Tryz.zeroValue184
 t182 := Tryz.underlying250
 a182 := Tryz.isAgg250
 z182 := Tryz.sizeOf250
 v182 := Tryz.zeroValue250
 t183 := Tryz.underlying251
 a183 := Tryz.isAgg251
 z183 := Tryz.sizeOf251
 v183 := Tryz.zeroValue251
 t218 := Tryz.underlying268
 a218 := Tryz.isAgg268
 z218 := Tryz.sizeOf268
 v218 := Tryz.zeroValue268
 t222 := Tryz.underlying272
 a222 := Tryz.isAgg272
 z222 := Tryz.sizeOf272
 v222 := Tryz.zeroValue272
 t228 := Tryz.underlying278
 a228 := Tryz.isAgg278
 z228 := Tryz.sizeOf278
 v228 := Tryz.zeroValue278
 t229 := Tryz.underlying92
 a229 := Tryz.isAgg92
 z229 := Tryz.sizeOf92
 v229 := Tryz.zeroValue92 }
open Go.Sort Go.RowKit in
theorem Tryz.slices_Sort_string (blk off cap : Nat) (ss : List (List UInt8)) (w : World) (hH : Holds encStr w blk off ss.toArray) (hblk : blk < w.heap.size) (hsz : ss.length < 4611686018427387904) :
  Calls Tryz.prog 142 #[.slice (some ⟨blk, off, none⟩) ss.length cap] w fun e w' =>
   e = .returned (.tuple #[]) ∧ ∃ n os, w' = grow (putRow encStr (Sort.ahead w n) blk off (ss.mergeSort fun x y => decide (x ≤ y)).toArray) os := Any.slices_Sort_string Tryz.lays190 blk off cap ss w hH hblk hsz
def Tryz.laysNm220_ren : Go.Shelf.Ren := ⟨fun | 20 => 160 | n => n, fun | 22 => 24 | 3 => 3 | 4 => 4 | 0 => 0 | n => n, fun | n => n⟩
theorem Tryz.laysNm220 : Go.Proofs.Lays2.n20 Tryz.prog Tryz.laysNm220_ren := {
 mixed := by kernel_rfl
 f20 := Tryz.func160.trans (congrArg some (by kernel_rfl))
 t0 := Tryz.underlying0
 a0 := Tryz.isAgg0
 z0 := Tryz.sizeOf0
 v0 := Tryz.zeroValue0
 t3 := Tryz.underlying3
 a3 := Tryz.isAgg3
 z3 := Tryz.sizeOf3
 v3 := Tryz.zeroValue3
 t4 := Tryz.underlying4
 a4 := Tryz.isAgg4
 z4 := Tryz.sizeOf4
 v4 := Tryz.zeroValue4
 t22 := Tryz.underlying24
 a22 := Tryz.isAgg24
 z22 := Tryz.sizeOf24
 v22 := Tryz.zeroValue24
 i3 := by kernel_rfl }
open Go.RowKit Go.Lib Go.Sort in
theorem Tryz.slices_Compact_int (blk off cap : Nat) (zs : List Int) (w : World) (hH : Holds (Value.int .i64) w blk off zs.toArray) (hsz : zs.length ≤ 9223372036854775807) (hcap : zs.length ≤ cap) :
  Calls Tryz.prog 160 #[.slice (some ⟨blk, off, none⟩) zs.length cap] w fun e w' => e = .returned (.slice (some ⟨blk, off, none⟩) (Lib.compact zs).length cap) ∧ ∃ q, w' = putRow (Value.int .i64) (Sort.ahead w q) blk off (Lib.compact zs ++ List.replicate (zs.length - (Lib.compact zs).length) 0).toArray := Any.slices_Compact_int Tryz.laysNm220 blk off cap zs w hH hsz hcap
def Tryz.lays194_ren : Go.Shelf.Ren := ⟨fun | 194 => 143 | n => n, fun | 31 => 181 | 9 => 9 | 3 => 3 | 4 => 4 | 0 => 0 | n => n, fun | n => n⟩
theorem Tryz.lays194 : Go.Proofs.Lays.n194 Tryz.prog Tryz.lays194_ren := {
 mixed := by kernel_rfl
 f194 := Tryz.func143.trans (congrArg some (by kernel_rfl))
 t0 := Tryz.underlying0
 a0 := Tryz.isAgg0
 z0 := Tryz.sizeOf0
 v0 := Tryz.zeroValue0
 t3 := Tryz.underlying3
 a3 := Tryz.isAgg3
 z3 := Tryz.sizeOf3
 v3 := Tryz.zeroValue3
 t4 := Tryz.underlying4
 a4 := Tryz.isAgg4
 z4 := Tryz.sizeOf4
 v4 := Tryz.zeroValue4
 t9 := Tryz.underlying9
 a9 := Tryz.isAgg9
 z9 := Tryz.sizeOf9
 v9 := Tryz.zeroValue9
 t31 := Tryz.underlying181
 a31 := Tryz.isAgg181
 z31 := Tryz.sizeOf181
 v31 := Tryz.zeroValue181 }
open Go.RowKit Go.Lib Go.Sort in
theorem Tryz.slices_Compact_string (blk off cap : Nat) (zs : List (List UInt8)) (w : World) (hH : Holds encStr w blk off zs.toArray) (hsz : zs.length ≤ 9223372036854775807) (hcap : zs.length ≤ cap) :
  Calls Tryz.prog 143 #[.slice (some ⟨blk, off, none⟩) zs.length cap] w fun e w' => e = .returned (.slice (some ⟨blk, off, none⟩) (Lib.compact zs).length cap) ∧ ∃ q, w' = putRow encStr (Sort.ahead w q) blk off (Lib.compact zs ++ List.replicate (zs.length - (Lib.compact zs).length) []).toArray := Any.slices_Compact_string Tryz.lays194 blk off cap zs w hH hsz hcap
open Go.RowKit Go.Lib Go.Sort in
theorem Tryz.slices_Compact_string_empty (a : Option Addr) (cap : Nat) (w : World) :
  Calls Tryz.prog 143 #[.slice a 0 cap] w fun e w' => e = .returned (.slice a 0 cap) ∧ w' = w := Any.slices_Compact_string_empty Tryz.lays194 a cap w
open Go.RowKit Go.Sort in
theorem Tryz.slices_Sort_string_none (p : Option Addr) (cap : Nat) (w : World) :
  Calls Tryz.prog 142 #[.slice p 0 cap] w fun e w' => e = .returned (.tuple #[]) ∧ w' = w := Any.slices_Sort_string_none Tryz.lays190 p cap w
end Go.Proofs
namespace Go.Proofs.YthknbpijaoljgaaGreatDoor
open Go.Sy
def stL (b : List UInt8) : List D := [.st b]
theorem arr2 {vs : Array Value} (h : vs.size = 2) : vs = #[vs.getD 0 undef, vs.getD 1 undef] := by
 apply Array.ext
 ·simpa using h
 ·intro i h1 h2
  have : i = 0 ∨ i = 1 := by simp at h2; omega
  rcases this with rfl | rfl <;> simp [Array.getD, h]
theorem join_ok (xs : List (List UInt8)) (sep : List UInt8) (hn : xs.length ≤ 1000000) (hl : (Lib.join xs sep).length ≤ 140737488355328) : FnC Tryz.prog 144 [.d (.fs 1 (xs.map stL)), .d (.st sep)] (.d (.st (Lib.join xs sep))) := by
 refine ⟨rfl, fun g w vs hfz _ hsz hav => .inl ⟨Tryz.call144 _ _, ?_⟩⟩
 have ha := hav 0 (by simp)
 have hb := hav 1 (by simp)
 rw [arr2 hsz]
 simp only [List.getElem_cons_zero, List.getElem_cons_succ] at ha hb
 generalize vs.getD 0 undef = a at ha
 generalize vs.getD 1 undef = b at hb
 cases hb with | d _ _ hb => ?_
 cases hb with | st => ?_
 cases ha with | d _ _ ha => ?_
 generalize hes : xs.map stL = es at ha
 cases ha with
 | fs0 _ ad cap =>
  have : xs = [] := by simpa using hes
  subst this
  refine (Tryz.strings_Join_none ad cap _ w).mono ?_
  rintro e w' ⟨rfl, rfl⟩
  exact ⟨_, g, rfl, .d _ _ (.st []), fun _ _ _ h => h, fun _ _ _ h => .inl h, hfz, Nat.le_refl _, fun _ _ => rfl, rfl, rfl, rfl⟩
 | fs _ _ b off len cap f hlen hc hs hF hr =>
  by_cases h0 : xs = []
  ·subst h0
   have hl0 : len = 0 := by rw [← hlen, ← hes]; rfl
   subst hl0
   refine (Tryz.strings_Join_none _ cap _ w).mono ?_
   rintro e w' ⟨rfl, rfl⟩
   exact ⟨_, g, rfl, .d _ _ (.st []), fun _ _ _ h => h, fun _ _ _ h => .inl h, hfz, Nat.le_refl _, fun _ _ => rfl, rfl, rfl, rfl⟩
  have hxl : xs.length = len := by rw [← hlen, ← hes]; simp
  have hval : ∀ j (hj : j < xs.length), f j 0 = .string ⟨xs[j].toArray⟩ := fun j hj => by
   subst hes
   have hr := hr j (by simpa using hj) 0 (by simp [stL])
   simp only [List.getElem_map, stL, List.getElem_cons_zero] at hr
   generalize f j 0 = z at hr
   cases hr; rfl
  have hcell : ∀ j (hj : j < xs.length), w.cell? ⟨b, off + j, none⟩ = some (.string ⟨xs[j].toArray⟩) := fun j hj => by
   have := hfz _ _ _ (hF j 0 (by omega) (by omega))
   rw [hval j hj] at this
   rw [← this]; simp
  have hpos : 0 < xs.length := by
   rcases Nat.eq_zero_or_pos xs.length with h | h
   ·exact absurd (List.length_eq_zero_iff.1 h) h0
   ·exact h
  have hbk : b < w.heap.size := by
   have := hcell 0 hpos
   rcases Nat.lt_or_ge b w.heap.size with h' | h'
   ·exact h'
   ·simp [World.cell?, Array.getElem?_eq_none h'] at this
  have hxs : (xs.map fun x => (⟨x.toArray⟩ : ByteArray)).map (·.data.toList) = xs := by
   rw [List.map_map]
   exact List.map_id' xs
  have := Tryz.strings_Join b off cap (xs.map fun x => (⟨x.toArray⟩ : ByteArray)) ⟨sep.toArray⟩ w (fun j x hj => by
   simp only [List.getElem?_map, Option.map_eq_some_iff] at hj
   obtain ⟨y, hy, rfl⟩ := hj
   obtain ⟨hj', rfl⟩ := List.getElem?_eq_some_iff.1 hy
   exact hcell j hj') hbk (by simp; omega) (by simp; omega) (by rw [hxs]; simpa using hl)
  rw [hxs] at this
  simp only [List.length_map, hxl] at this
  refine this.mono ?_
  rintro e w' ⟨rfl, hB⟩
  exact ⟨_, g, rfl, .d _ _ (.st _), fun _ _ _ h => h, fun _ _ _ h => .inl h, fun b' o v h => by
   have hc := hfz b' o v h
   have hb' : b' < w.heap.size := by
    rcases Nat.lt_or_ge b' w.heap.size with h' | h'
    ·exact h'
    ·simp [World.cell?, Array.getElem?_eq_none h'] at hc
   rw [← hc]
   simp only [World.cell?, hB.block b' hb'], hB.size, hB.block, hB.os, hB.tape, hB.output⟩
theorem wordsC_some (c : UInt8) : ∀ (s : List UInt8), 0 ≤ Lib.indexByte s c → Lib.indexByte s c < s.length ∧ wordsC c s = s.take (Lib.indexByte s c).toNat :: wordsC c (s.drop ((Lib.indexByte s c).toNat + 1)) ∧ s.count c = 1 + (s.drop ((Lib.indexByte s c).toNat + 1)).count c
 | [], h => by simp [Lib.indexByte] at h
 | b :: t, h => by
  have hge := Lib.indexByte_ge t c
  by_cases hb : b = c
  ·obtain rfl := hb
   have e : Lib.indexByte (b :: t) b = 0 := by simp [Lib.indexByte]
   rw [e]
   refine ⟨by simp, by simp [wordsC], by simp; omega⟩
  ·have hb' : (b == c) = false := beq_eq_false_iff_ne.2 hb
   have e : Lib.indexByte (b :: t) c = if Lib.indexByte t c == -1 then -1 else Lib.indexByte t c + 1 := by simp [Lib.indexByte, hb]
   rw [e] at h ⊢
   by_cases h1 : Lib.indexByte t c = -1
   ·rw [h1] at h; simp at h
   ·have h2 : (Lib.indexByte t c == -1) = false := by simpa using h1
    rw [h2] at h ⊢
    simp only [Bool.false_eq_true, if_false] at h ⊢
    obtain ⟨k1, k2, k3⟩ := wordsC_some c t (by omega)
    have hn : (Lib.indexByte t c + 1).toNat = (Lib.indexByte t c).toNat + 1 := by omega
    rw [hn]
    refine ⟨by simp; omega, ?_, ?_⟩
    ·simp only [wordsC, if_neg hb, k2, List.take_succ_cons, List.drop_succ_cons]
    ·simp only [List.drop_succ_cons, List.count_cons, hb', Bool.false_eq_true, if_false, Nat.add_zero]
     exact k3
end Go.Proofs.YthknbpijaoljgaaGreatDoor
namespace Go.Proofs.YthknbpijaoljgaaGreatDoor
open Go.Sy
theorem none_of {c : UInt8} {r : List UInt8} (h : r.count c = 0) : Lib.indexByte r c = -1 := by
 by_cases h0 : 0 ≤ Lib.indexByte r c
 ·have := (wordsC_some c r h0).2.2
  omega
 ·have := Lib.indexByte_ge r c
  omega
end Go.Proofs.YthknbpijaoljgaaGreatDoor
namespace Go.Proofs.YthknbpijaoljgaaGreatDoor
open Go.Sy
theorem trimS_nil {s : List UInt8} : (trimS s == []) = s.all signB := by
 have key : ∀ l : List UInt8, l.dropWhile signB = [] ↔ l.all signB = true := by
  intro l
  induction l with
  | nil => simp
  | cons a l ih =>
   rw [List.all_cons, Bool.and_eq_true]
   cases ha : signB a with
   | true => rw [List.dropWhile_cons_of_pos ha, ih]; simp
   | false => rw [List.dropWhile_cons_of_neg (by simp [ha])]; simp
 have hall : trimS s = [] ↔ s.all signB = true := by
  rw [trimS, key, trimR]
  constructor
  ·intro h
   by_cases h0 : s.all signB = true
   ·exact h0
   ·exfalso
    have hne : s.reverse.dropWhile signB ≠ [] := fun he => h0 (by rw [← List.all_reverse]; exact (key _).1 he)
    have hd := List.head_dropWhile_not signB hne
    rw [List.all_reverse] at h
    have := List.all_eq_true.1 h _ (List.head_mem hne)
    rw [this] at hd; cases hd
  ·intro h
   rw [List.all_reverse, (key _).2 (by rw [List.all_reverse]; exact h)]; rfl
 cases h : s.all signB with
 | true => rw [hall.2 h]; rfl
 | false =>
  have : trimS s ≠ [] := fun he => by rw [hall.1 he] at h; cases h
  simpa using this
theorem name_ok (s : List UInt8) : FnC Tryz.prog 209 [.d (.st s)] (.d (.bl (nameB s))) := by
 refine FnC.intro ti_ok Tryz.func209 rfl Tryz.ntmps209 Tryz.call209 rfl (Nat.le_of_ble_eq_true rfl) rfl ?_
 by_cases h0 : s = []
 ·subst h0
  (repeat' ((conv=>whnf);first|with_reducible refine gA ?_|(with_reducible first|refine gB ?_|refine gZ (fun x hx hu=>?_)|refine gY (fun x hx=>?_)|refine gE ?_|refine Both.mk ?_ ?_|refine gS (fun h=>?_) (fun h=>?_)|refine Spl.nt ?_|refine Spl.mk (fun h=>?_) (fun h=>?_))))
  rfl
 have hp : 1 ≤ s.length := List.length_pos_iff.2 h0
 by_cases h8 : s.length ≤ 8
 ·by_cases h1 : s = [46]
  ·subst h1
   (repeat' ((conv=>whnf);first|with_reducible refine gA ?_|(with_reducible first|refine gB ?_|refine gZ (fun x hx hu=>?_)|refine gY (fun x hx=>?_)|refine gE ?_|refine Both.mk ?_ ?_|refine gS (fun h=>?_) (fun h=>?_)|refine Spl.nt ?_|refine Spl.mk (fun h=>?_) (fun h=>?_))))
   rfl
  by_cases h2 : s = [46, 46]
  ·subst h2
   (repeat' ((conv=>whnf);first|with_reducible refine gA ?_|(with_reducible first|refine gB ?_|refine gZ (fun x hx hu=>?_)|refine gY (fun x hx=>?_)|refine gE ?_|refine Both.mk ?_ ?_|refine gS (fun h=>?_) (fun h=>?_)|refine Spl.nt ?_|refine Spl.mk (fun h=>?_) (fun h=>?_))))
   rfl
  rw [nameB_yes hp h8 h1 h2, ← trimS_nil]
  (repeat' ((conv=>whnf);first|with_reducible refine gA ?_|refine CallE.con ⟨_, trim_ok s h0 (by omega), ?_⟩|(with_reducible first|refine gB ?_|refine gZ (fun x hx hu=>?_)|refine gY (fun x hx=>?_)|refine gE ?_|refine Both.mk ?_ ?_|refine gS (fun h=>?_) (fun h=>?_)|refine Spl.nt ?_|refine Spl.mk (fun h=>?_) (fun h=>?_))))
  rfl
 ·rw [nameB_no (by omega)]
  (repeat' ((conv=>whnf);first|with_reducible refine gA ?_|(with_reducible first|refine gB ?_|refine gZ (fun x hx hu=>?_)|refine gY (fun x hx=>?_)|refine gE ?_|refine Both.mk ?_ ?_|refine gS (fun h=>?_) (fun h=>?_)|refine Spl.nt ?_|refine Spl.mk (fun h=>?_) (fun h=>?_))))
  rfl
theorem splitP_0 {r : List UInt8} (h : ¬ 47 :: r = [47]) (h1 : (wordsC 47 r).length ≤ 4) (h2 : (wordsC 47 r).all nameB = true) : splitP (47 :: r) = (wordsC 47 r, 0) := by
 rw [splitP, if_neg h]
 simp only [if_true]
 rw [if_pos ⟨h1, h2⟩]
end Go.Proofs.YthknbpijaoljgaaGreatDoor
namespace Go.Proofs.YthknbpijaoljgaaGreatDoor
open Go.Sy
def pw : List UInt8 → List (List UInt8)
 | [] => []
 | _ :: t => wordsC 47 t
theorem wordsC_app {s : List UInt8} (hs : s = [] ∨ s.head? = some 47) : ∀ {w : List UInt8}, w.all (fun b => b != 47) = true → wordsC 47 (w ++ s) = w :: pw s
 | [], _ => by
  cases s with
  | nil => rfl
  | cons b t =>
   rcases hs with hs | hs
   ·cases hs
   ·obtain rfl : b = 47 := Option.some.inj hs
    rfl
 | b :: w, h => by
  rw [List.all_cons, Bool.and_eq_true] at h
  have hb : ¬ b = 47 := by simpa using h.1
  rw [List.cons_append, wordsC, if_neg hb, wordsC_app hs h.2]
theorem splitP_pw0 {p : List UInt8} (h1 : ¬ p = [47]) (h0 : p[0]? = some 47) (h2 : (pw p).length ≤ 4) (h3 : (pw p).all nameB = true) : splitP p = (pw p, 0) := by
 cases p with
 | nil => cases h0
 | cons b r =>
  obtain rfl : b = 47 := Option.some.inj h0
  exact splitP_0 h1 h2 h3
end Go.Proofs.YthknbpijaoljgaaGreatDoor
namespace Go.Proofs.YthknbpijaoljgaaGreatDoor
open Go.Sy
end Go.Proofs.YthknbpijaoljgaaGreatDoor
namespace Go.Proofs.YthknbpijaoljgaaGreatDoor
open Go.Sy
def joinR (l : List (List UInt8)) : List UInt8 := if l = [] then [47] else joinP l
theorem pathJoin_ok (l : List (List UInt8)) (hn : l.length ≤ 1000000) (hl : (Lib.join l [47]).length ≤ 1000000) : FnC Tryz.prog 114 [.d (.fs 1 (l.map stL))] (.d (.st (47 :: Lib.join l [47]))) := by
 refine FnC.intro ti_ok Tryz.func114 rfl Tryz.ntmps114 Tryz.call114 rfl (Nat.le_of_ble_eq_true rfl) rfl ?_
 (repeat' ((conv=>whnf);first|with_reducible refine gA ?_|refine CallE.con ⟨_, join_ok l [47] hn (by omega), ?_⟩|(with_reducible first|refine gB ?_|refine gZ (fun x hx hu=>?_)|refine gY (fun x hx=>?_)|refine gE ?_|refine Both.mk ?_ ?_|refine gS (fun h=>?_) (fun h=>?_)|refine Spl.nt ?_|refine Spl.mk (fun h=>?_) (fun h=>?_))))
 rfl
end Go.Proofs.YthknbpijaoljgaaGreatDoor
namespace Go.Proofs.YthknbpijaoljgaaGreatDoor
open Go.Sy
theorem bytesD_app (a b : List UInt8) : bytesD (a ++ b) = bytesD a ++ bytesD b := by simp [bytesD]
end Go.Proofs.YthknbpijaoljgaaGreatDoor
namespace Go.Proofs.YthknbpijaoljgaaGreatDoor
open Go.Sy
end Go.Proofs.YthknbpijaoljgaaGreatDoor
namespace Go.Proofs.YthknbpijaoljgaaGreatDoor
open Go.Sy
def encS (s : List UInt8) : List D := s.map (fun b => .it .u8 b.toNat)
def zeroS : List UInt8 := List.replicate 32 0
theorem encS_len (s : List UInt8) : (encS s).length = s.length := List.length_map ..
theorem eqS : ∀ (s t : List UInt8), s.length = t.length → eqDs (encS s) (encS t) = decide (s = t)
 | [], [], _ => rfl
 | [], b :: t, h => by cases h
 | a :: s, [], h => by cases h
 | a :: s, b :: t, h => by
  have ih := eqS s t (by simpa using h)
  show (eqD (.it .u8 a.toNat) (.it .u8 b.toNat) && eqDs (encS s) (encS t)) = _
  rw [ih, Bool.eq_iff_iff]
  simp only [eqD, Bool.and_eq_true, beq_iff_eq, decide_eq_true_eq, List.cons.injEq]
  refine and_congr_left' ⟨fun h => UInt8.toNat.inj (by omega), fun h => by rw [h]⟩
theorem likeS : ∀ (s t : List UInt8), s.length = t.length → likes (encS s) (encS t) = true
 | [], [], _ => rfl
 | [], b :: t, h => by cases h
 | a :: s, [], h => by cases h
 | a :: s, b :: t, h => by
  have ih := likeS s t (by simpa using h)
  show (likeD (.it .u8 a.toNat) (.it .u8 b.toNat) && likes (encS s) (encS t)) = true
  rw [ih]; rfl
theorem likeSS (s t : List UInt8) (hs : s.length = 32) (ht : t.length = 32) : (true && (likes (encS zeroS) (encS s) && likes (encS zeroS) (encS t))) = true := by
 rw [likeS _ _ (by rw [hs]; rfl), likeS _ _ (by rw [ht]; rfl)]; rfl
theorem allD_map : ∀ (l : List D), Sy.allD (l.map AV.d) = some l
 | [] => rfl
 | x :: l => by show (match Sy.allD (l.map AV.d) with | some l => some (x :: l) | none => none) = _; rw [allD_map l]
theorem ld_sec {ty : Ty} (ha : ty.kd.agg = true) (hz : ty.size = 32) {s : List UInt8} (hs : s.length = 32) : ldA ty 0 ((encS s).map AV.d) = .dg 32 (encS s) := by
 unfold ldA
 rw [ha, cond_true, hz, List.drop_zero, List.take_of_length_le (by rw [List.length_map, encS_len, hs]; exact Nat.le_refl _)]
 unfold mkAg
 rw [allD_map]
theorem ld_byte {ty : Ty} (ha : ty.kd.agg = false) {s : List UInt8} {k : Nat} {b : UInt8} (hb : s[k]? = some b) : ldA ty k ((encS s).map AV.d) = .d (.it .u8 b.toNat) := by
 unfold ldA
 rw [ha, cond_false, List.getD_eq_getElem?_getD, List.getElem?_map, encS, List.getElem?_map, hb]; rfl
theorem zero_ok (s : List UInt8) (hs : s.length = 32) : FnC Tryz.prog 161 [.dg 32 (encS s)] (.d (.bl (decide (s = zeroS)))) := by
 refine FnC.intro ti_ok Tryz.func161 rfl Tryz.ntmps161 Tryz.call161 rfl (Nat.le_of_ble_eq_true rfl) rfl ?_
 (repeat' ((conv=>whnf);first|with_reducible refine gA ?_|refine AtA.eq (ld_sec rfl rfl hs) ?_ | refine cond_tt (likeSS s zeroS hs rfl) ?_|(with_reducible first|refine gB ?_|refine gZ (fun x hx hu=>?_)|refine gY (fun x hx=>?_)|refine gE ?_|refine Both.mk ?_ ?_|refine gS (fun h=>?_) (fun h=>?_)|refine Spl.nt ?_|refine Spl.mk (fun h=>?_) (fun h=>?_))))
 exact bl_eq (eqS s zeroS (by rw [hs]; rfl))
theorem fits_ok (a n : Int) : FnC Tryz.prog 180 [.d (.it .i64 a), .d (.it .i64 n)] (.d (.bl (decide (0 ≤ a ∧ a ≤ 32 ∧ 0 ≤ n ∧ n ≤ 32 - a)))) := by
 refine FnC.intro ti_ok Tryz.func180 rfl Tryz.ntmps180 Tryz.call180 rfl (Nat.le_of_ble_eq_true rfl) rfl ?_
 by_cases h0 : 0 ≤ a ∧ a ≤ 32
 all_goals (repeat' ((conv=>whnf);first|with_reducible refine gA ?_|(with_reducible first|refine gB ?_|refine gZ (fun x hx hu=>?_)|refine gY (fun x hx=>?_)|refine gE ?_|refine Both.mk ?_ ?_|refine gS (fun h=>?_) (fun h=>?_)|refine Spl.nt ?_|refine Spl.mk (fun h=>?_) (fun h=>?_))))
 all_goals refine bl_eq ?_
 all_goals first | (rw [eq_comm]; exact decide_eq_false (by omega)) | (rw [Bool.eq_iff_iff]; simp; omega)
end Go.Proofs.YthknbpijaoljgaaGreatDoor
namespace Go.Proofs.YthknbpijaoljgaaGreatDoor
open Go.Sy
structure Ent where
 u : Bool
 p : Int
 n : List UInt8
 t : Int
deriving DecidableEq
def encE (x : Ent) : List D := [.bl x.u, .it .i64 x.p, .st x.n, .it .i64 x.t]
def RE (x : Ent) : Prop := x.u = false ∧ x.p = 0 ∧ x.n = [] ∧ x.t = 0 ∨ x.u = true ∧ 0 ≤ x.p ∧ x.p < 16 ∧ 1 ≤ x.t ∧ x.t < 16 ∧ nameB x.n = true
instance (x : Ent) : Decidable (RE x) := by unfold RE; infer_instance
theorem e_ff {p : Prop} [Decidable p] (h : ¬ p) : AV.d (.bl false) = AV.d (.bl (decide p)) := by rw [decide_eq_false h]
theorem e_of {e : Bool} {p : Prop} [Decidable p] (h : e = true ↔ p) : AV.d (.bl e) = AV.d (.bl (decide p)) := by
 have : e = decide p := by rw [Bool.eq_iff_iff, h, decide_eq_true_eq]
 rw [this]
theorem eqE4 (a a' : Bool) (b b' : Int) (c c' : List UInt8) (d d' : Int) : eqDs [.bl a, .it .i64 b, .st c, .it .i64 d] [.bl a', .it .i64 b', .st c', .it .i64 d'] = decide (a = a' ∧ b = b' ∧ c = c' ∧ d = d') := by
 rw [Bool.eq_iff_iff]; simp [eqDs, eqD]
theorem e_tr {a b : Bool} {v : AV} (h : a = b) (h2 : AV.d (.bl b) = v) : AV.d (.bl a) = v := by rw [h, h2]
theorem re_ok (x : Ent) : FnC Tryz.prog 182 [.dg 4 (encE x)] (.d (.bl (decide (RE x)))) := by
 refine FnC.intro ti_ok Tryz.func182 rfl Tryz.ntmps182 Tryz.call182 rfl (Nat.le_of_ble_eq_true rfl) rfl ?_
 have hn := name_ok x.n
 cases hu : x.u with
 | false =>
  have hu' : (!x.u) = true := by rw [hu]; rfl
  (repeat' ((conv=>whnf);first|with_reducible refine gA ?_|(with_reducible first|refine gB ?_|refine gZ (fun x hx hu=>?_)|refine gY (fun x hx=>?_)|refine gE ?_|refine Both.mk ?_ ?_|refine gS (fun h=>?_) (fun h=>?_)|refine Spl.nt ?_|refine Spl.mk (fun h=>?_) (fun h=>?_))))
  exact e_tr (eqE4 _ _ _ _ _ _ _ _) (e_of (by simp [RE, hu]))
 | true =>
  have hu' : (!x.u) = false := by rw [hu]; rfl
  (repeat' ((conv=>whnf);first|with_reducible refine gA ?_|(refine CallE.con ⟨_, hn, ?_⟩) | with_reducible refine CallI.inl ti_ok i208 rfl ?_|(with_reducible first|refine gB ?_|refine gZ (fun x hx hu=>?_)|refine gY (fun x hx=>?_)|refine gE ?_|refine Both.mk ?_ ?_|refine gS (fun h=>?_) (fun h=>?_)|refine Spl.nt ?_|refine Spl.mk (fun h=>?_) (fun h=>?_))))
  all_goals first
   | (refine e_ff ?_; simp only [RE, hu]; simp; omega)
   | exact e_of ⟨fun hb => .inr ⟨hu, by omega, by omega, by omega, by omega, hb⟩, fun h => h.elim (fun h => by rw [hu] at h; cases h.1) fun h => h.2.2.2.2.2⟩
end Go.Proofs.YthknbpijaoljgaaGreatDoor
namespace Go.Proofs.YthknbpijaoljgaaGreatDoor
open Go.Sy
def by8e (n : Int) : UInt8 := UInt8.ofNat n.toNat
theorem by8e_ok {n : Int} (h : 0 ≤ n ∧ n < 256) : ((by8e n).toNat : Int) = n := by
 unfold by8e
 rw [UInt8.toNat_ofNat']
 omega
def entS (x : Ent) : List UInt8 := if x.u = true then [1, by8e x.p, by8e x.t, by8e x.n.length, 0, 0, 0, 0, 0, 0, 0, 0, 0, 0, 0, 0] ++ x.n ++ List.replicate (16 - x.n.length) 0 else zeroS
def c16 (x : Ent) : List D := [.it .u8 1, .it .u8 x.p, .it .u8 x.t, .it .u8 (x.n.length : Nat), .it .u8 0, .it .u8 0, .it .u8 0, .it .u8 0, .it .u8 0, .it .u8 0, .it .u8 0, .it .u8 0, .it .u8 0, .it .u8 0, .it .u8 0, .it .u8 0]
theorem st_all (l : List AV) : l = [] ++ l ++ [] := by simp
theorem bytes_flat : ∀ (n : List UInt8), (bytesD n).flatten = encS n
 | [] => rfl
 | b :: n => by show [D.it .u8 b.toNat] ++ (bytesD n).flatten = D.it .u8 b.toNat :: encS n; rw [bytes_flat n]; rfl
theorem encS_rep (k : Nat) : encS (List.replicate k 0) = List.replicate k (.it .u8 0) := by unfold encS; rw [List.map_replicate]; rfl
theorem entS_len (x : Ent) (hx : RE x) : (entS x).length = 32 := by
 unfold entS
 unfold RE at hx
 split
 ·rename_i hu
  rcases hx with h | ⟨_, _, _, _, _, hn⟩
  ·rw [hu] at h; cases h.1
  ·have : x.n.length ≤ 8 := by
    unfold nameB at hn
    simp only [Bool.and_eq_true, decide_eq_true_eq] at hn; omega
   simp; omega
 ·rfl
theorem entS_enc {x : Ent} (hu : x.u = true) (hp : 0 ≤ x.p ∧ x.p < 16) (ht : 0 ≤ x.t ∧ x.t < 16) (hn : x.n.length ≤ 16) :
  encS (entS x) = c16 x ++ encS x.n ++ List.replicate (16 - x.n.length) (.it .u8 0) := by
 unfold entS
 rw [if_pos hu]
 show encS (_ ++ x.n ++ _) = _
 unfold encS
 rw [List.map_append, List.map_append]
 have e2 : List.map (fun b : UInt8 => D.it .u8 b.toNat) [1, by8e x.p, by8e x.t, by8e x.n.length, 0, 0, 0, 0, 0, 0, 0, 0, 0, 0, 0, 0] = c16 x := by
  show [_, D.it .u8 (by8e x.p).toNat, D.it .u8 (by8e x.t).toNat, D.it .u8 (by8e x.n.length).toNat, _, _, _, _, _, _, _, _, _, _, _, _] = _
  rw [by8e_ok (by omega), by8e_ok (by omega), by8e_ok (by omega)]; rfl
 rw [e2]
 have e3 := encS_rep (16 - x.n.length)
 unfold encS at e3
 rw [e3]
theorem entS_cells {x : Ent} (hu : x.u = true) (hp : 0 ≤ x.p ∧ x.p < 16) (ht : 0 ≤ x.t ∧ x.t < 16) (hn : x.n.length ≤ 16) :
  (encS (entS x)).map AV.d = ((c16 x ++ List.replicate 16 (D.it .u8 0)).map AV.d).take 16 ++ (bytesD x.n).flatten.map AV.d ++ ((c16 x ++ List.replicate 16 (D.it .u8 0)).map AV.d).drop (16 + x.n.length * 1) := by
 have e1 := entS_enc hu hp ht hn
 have hl : (c16 x).length = 16 := rfl
 rw [e1, bytes_flat, List.map_append, List.map_append, List.map_append]
 have t1 : ((c16 x).map AV.d ++ (List.replicate 16 (D.it .u8 0)).map AV.d).take 16 = (c16 x).map AV.d := List.take_left' (by simp [hl])
 have t2 : ((c16 x).map AV.d ++ (List.replicate 16 (D.it .u8 0)).map AV.d).drop (16 + x.n.length * 1) = (List.replicate (16 - x.n.length) (D.it .u8 0)).map AV.d := by
  rw [List.drop_append, List.drop_eq_nil_of_le (by simp [hl]), List.nil_append, List.length_map, hl, List.map_replicate, List.map_replicate, List.drop_replicate]
  congr 1; omega
 rw [t1, t2]
theorem bytesD_l (n : List UInt8) : (bytesD n).length = n.length := by unfold bytesD; exact List.length_map ..
theorem entS_cells2 {x : Ent} {i j : Nat} (hi : i = 16) (hj : j = 16 + x.n.length * 1) (hu : x.u = true) (hp : 0 ≤ x.p ∧ x.p < 16) (ht : 0 ≤ x.t ∧ x.t < 16) (hn : x.n.length ≤ 16) :
  (encS (entS x)).map AV.d = ((c16 x ++ List.replicate 16 (D.it .u8 0)).map AV.d).take i ++ (bytesD x.n).flatten.map AV.d ++ ((c16 x ++ List.replicate 16 (D.it .u8 0)).map AV.d).drop j := by
 subst hi hj; exact entS_cells hu hp ht hn
def entR (x : Ent) : AV := if RE x then .tup [.dg 32 (encS (entS x)), .d (.bl true)] else .tup [.dg 32 (encS zeroS), .d (.bl false)]
set_option maxHeartbeats 4000000 in
theorem ent_ok (x : Ent) : FnC Tryz.prog 163 [.dg 4 (encE x)] (entR x) := by
 have hr := re_ok x
 unfold entR
 by_cases h : RE x
 ·have hl := entS_len x h
  rw [if_pos h]
  rw [decide_eq_true h] at hr
  cases hu : x.u with
  | true =>
   obtain ⟨hp, ht, hn⟩ : (0 ≤ x.p ∧ x.p < 16) ∧ (0 ≤ x.t ∧ x.t < 16) ∧ x.n.length ≤ 8 := by
    unfold RE at h
    rcases h with h | ⟨_, h1, h2, h3, h4, hn⟩
    ·rw [hu] at h; cases h.1
    ·unfold nameB at hn
     simp only [Bool.and_eq_true, decide_eq_true_eq] at hn; omega
   refine FnC.intro ti_ok Tryz.func163 rfl Tryz.ntmps163 Tryz.call163 rfl (Nat.le_of_ble_eq_true rfl) rfl ?_
   (repeat' ((conv=>whnf);first|with_reducible refine gA ?_|((with_reducible refine callE_id ?_); (refine CallE.con ⟨_, hr, ?_⟩)) | ((with_reducible refine letC_id ?_); first | refine LetC.mk ((c16 x ++ List.replicate 16 (D.it .u8 0)).map AV.d) rfl ?_ | refine LetC.mk ((encS (entS x)).map AV.d) (entS_cells2 rfl (by show 0 + 16 * 1 + (bytesD x.n).length * 1 = _; rw [bytesD_l]) hu (by omega) (by omega) (by omega)) ?_ | refine LetC.mk ((encS (entS x)).map AV.d) (st_all _) ?_ | refine LetC.now ?_) | refine AtA.eq (ld_sec rfl rfl hl) ?_ | with_reducible refine AtA.mk' ?_|(with_reducible first|refine gB ?_|refine gZ (fun x hx hu=>?_)|refine gY (fun x hx=>?_)|refine gE ?_|refine Both.mk ?_ ?_|refine gS (fun h=>?_) (fun h=>?_)|refine Spl.nt ?_|refine Spl.mk (fun h=>?_) (fun h=>?_))))
   conv => whnf
   conv in (ldA _ _ _) => tactic => exact ld_sec rfl rfl hl
   rfl
  | false =>
   have he : entS x = zeroS := by unfold entS; rw [hu]; rfl
   rw [he]
   refine FnC.intro ti_ok Tryz.func163 rfl Tryz.ntmps163 Tryz.call163 rfl (Nat.le_of_ble_eq_true rfl) rfl ?_
   (repeat' ((conv=>whnf);first|with_reducible refine gA ?_|((with_reducible refine callE_id ?_); (refine CallE.con ⟨_, hr, ?_⟩)) | with_reducible refine AtA.mk' ?_|(with_reducible first|refine gB ?_|refine gZ (fun x hx hu=>?_)|refine gY (fun x hx=>?_)|refine gE ?_|refine Both.mk ?_ ?_|refine gS (fun h=>?_) (fun h=>?_)|refine Spl.nt ?_|refine Spl.mk (fun h=>?_) (fun h=>?_))))
   all_goals rfl
 ·rw [if_neg h]
  rw [decide_eq_false h] at hr
  refine FnC.intro ti_ok Tryz.func163 rfl Tryz.ntmps163 Tryz.call163 rfl (Nat.le_of_ble_eq_true rfl) rfl ?_
  (repeat' ((conv=>whnf);first|with_reducible refine gA ?_|((with_reducible refine callE_id ?_); (refine CallE.con ⟨_, hr, ?_⟩)) | with_reducible refine AtA.mk' ?_|(with_reducible first|refine gB ?_|refine gZ (fun x hx hu=>?_)|refine gY (fun x hx=>?_)|refine gE ?_|refine Both.mk ?_ ?_|refine gS (fun h=>?_) (fun h=>?_)|refine Spl.nt ?_|refine Spl.mk (fun h=>?_) (fun h=>?_))))
  all_goals rfl
end Go.Proofs.YthknbpijaoljgaaGreatDoor
namespace Go.Proofs.YthknbpijaoljgaaGreatDoor
open Go.Sy
end Go.Proofs.YthknbpijaoljgaaGreatDoor
namespace Go.Proofs.YthknbpijaoljgaaGreatDoor
open Go.Sy
theorem bytes_flat' : ∀ (n : List UInt8), (bytesD n).flatten = encS n
 | [] => rfl
 | b :: n => by show [D.it .u8 b.toNat] ++ (bytesD n).flatten = D.it .u8 b.toNat :: encS n; rw [bytes_flat' n]; rfl
set_option maxHeartbeats 4000000 in
theorem cut_ok (s : List UInt8) (hs : s.length = 32) (n : Nat) (hn : n < 256) : FnC Tryz.prog 162 [.dg 32 (encS s), .d (.it .i64 16), .d (.it .i64 (n : Nat))] (.d (.fs 1 (bytesD (if n ≤ 16 then (s.drop 16).take n else [])))) := by
 have hf := fits_ok 16 (n : Nat)
 by_cases h : n ≤ 16
 ·rw [if_pos h]
  rw [decide_eq_true (by omega)] at hf
  refine FnC.intro ti_ok Tryz.func162 rfl Tryz.ntmps162 Tryz.call162 rfl (Nat.le_of_ble_eq_true rfl) rfl ?_
  (repeat' ((conv=>whnf);first|with_reducible refine gA ?_|((with_reducible refine callE_id ?_); first | refine CallE.con ⟨_, hf, ?_⟩ | refine CallE.inl ?_) | with_reducible refine CallI.inl ti_ok i181 rfl ?_|(with_reducible first|refine gB ?_|refine gZ (fun x hx hu=>?_)|refine gY (fun x hx=>?_)|refine gE ?_|refine Both.mk ?_ ?_|refine gS (fun h=>?_) (fun h=>?_)|refine Spl.nt ?_|refine Spl.mk (fun h=>?_) (fun h=>?_))))
  have hlen : ((16 + (n : Int)).toNat - Int.toNat 16) = n := by omega
  have hL : ((s.drop 16).take n).length = n := by rw [List.length_take, List.length_drop, hs]; omega
  refine ⟨bytesD ((s.drop 16).take n), ⟨?_, ?_, ?_, ?_, ?_⟩, ?_⟩
  ·show 0 + Int.toNat 16 * 1 + ((16 + (n:Int)).toNat - Int.toNat 16) * 1 ≤ 32
   omega
  ·show (bytesD ((s.drop 16).take n)).length = ((16 + (n:Int)).toNat - Int.toNat 16)
   rw [hlen]; unfold bytesD; rw [List.length_map, hL]
  ·intro x hx
   show x.length = 1
   obtain ⟨b, _, rfl⟩ := List.mem_map.1 hx
   rfl
  ·show (((encS s).map AV.d).drop (0 + Int.toNat 16 * 1)).take (((16 + (n:Int)).toNat - Int.toNat 16) * 1) = _
   rw [hlen, bytes_flat', Nat.mul_one]
   unfold encS
   rw [List.map_take, List.map_drop, List.map_take, List.map_drop]; rfl
  ·show 0 + ((16 + (n:Int)).toNat - Int.toNat 16) ≤ 1073741824
   omega
  (repeat' ((conv=>whnf);first|with_reducible refine gA ?_|(with_reducible first|refine gB ?_|refine gZ (fun x hx hu=>?_)|refine gY (fun x hx=>?_)|refine gE ?_|refine Both.mk ?_ ?_|refine gS (fun h=>?_) (fun h=>?_)|refine Spl.nt ?_|refine Spl.mk (fun h=>?_) (fun h=>?_))))
  all_goals rfl
 ·rw [if_neg h]
  rw [decide_eq_false (by omega)] at hf
  refine FnC.intro ti_ok Tryz.func162 rfl Tryz.ntmps162 Tryz.call162 rfl (Nat.le_of_ble_eq_true rfl) rfl ?_
  (repeat' ((conv=>whnf);first|with_reducible refine gA ?_|((with_reducible refine callE_id ?_); refine CallE.con ⟨_, hf, ?_⟩)|(with_reducible first|refine gB ?_|refine gZ (fun x hx hu=>?_)|refine gY (fun x hx=>?_)|refine gE ?_|refine Both.mk ?_ ?_|refine gS (fun h=>?_) (fun h=>?_)|refine Spl.nt ?_|refine Spl.mk (fun h=>?_) (fun h=>?_))))
  all_goals (show AV.d (.fs 1 []) = _; rfl)
end Go.Proofs.YthknbpijaoljgaaGreatDoor
namespace Go.Proofs.YthknbpijaoljgaaGreatDoor
open Go.Sy
structure Ino where
 k : Int
 z : Int
 b0 : Int
 b1 : Int
 b2 : Int
 b3 : Int
deriving DecidableEq
def encI (x : Ino) : List D := [.it .i64 x.k, .it .i64 x.z, .it .i64 x.b0, .it .i64 x.b1, .it .i64 x.b2, .it .i64 x.b3]
def RI (x : Ino) : Prop := (x.k = 0 ∨ x.k = 2) ∧ x.z = 0 ∧ x.b0 = 0 ∧ x.b1 = 0 ∧ x.b2 = 0 ∧ x.b3 = 0 ∨
 x.k = 1 ∧ 0 ≤ x.z ∧ x.z ≤ 128 ∧ (0 < x.z → 1 ≤ x.b0 ∧ x.b0 ≤ 24) ∧ (x.z ≤ 0 → x.b0 = 0) ∧ (32 < x.z → 1 ≤ x.b1 ∧ x.b1 ≤ 24 ∧ x.b1 ≠ x.b0) ∧ (x.z ≤ 32 → x.b1 = 0) ∧
 (64 < x.z → 1 ≤ x.b2 ∧ x.b2 ≤ 24 ∧ x.b2 ≠ x.b0 ∧ x.b2 ≠ x.b1) ∧ (x.z ≤ 64 → x.b2 = 0) ∧ (96 < x.z → 1 ≤ x.b3 ∧ x.b3 ≤ 24 ∧ x.b3 ≠ x.b0 ∧ x.b3 ≠ x.b1 ∧ x.b3 ≠ x.b2) ∧ (x.z ≤ 96 → x.b3 = 0)
instance (x : Ino) : Decidable (RI x) := by unfold RI; infer_instance
theorem need_ok (z : Int) (h0 : 0 ≤ z) (h1 : z ≤ 128) : FnC Tryz.prog 155 [.d (.it .i64 z)] (.d (.it .i64 ((z + 31) / 32))) := by
 refine FnC.intro ti_ok Tryz.func155 rfl Tryz.ntmps155 Tryz.call155 rfl (Nat.le_of_ble_eq_true rfl) rfl ?_
 (repeat' ((conv=>whnf);first|with_reducible refine gA ?_|(with_reducible first|refine gB ?_|refine gZ (fun x hx hu=>?_)|refine gY (fun x hx=>?_)|refine gE ?_|refine Both.mk ?_ ?_|refine gS (fun h=>?_) (fun h=>?_)|refine Spl.nt ?_|refine Spl.mk (fun h=>?_) (fun h=>?_))))
 all_goals exact it_eq (by omega)
theorem bl_ff {p : Prop} [Decidable p] (h : ¬ p) : AV.d (.bl false) = AV.d (.bl (decide p)) := by rw [decide_eq_false h]
theorem bl_tt {p : Prop} [Decidable p] (h : p) : AV.d (.bl true) = AV.d (.bl (decide p)) := by rw [decide_eq_true h]
theorem bl_dec {p q : Prop} [Decidable p] [Decidable q] (h : p ↔ q) : AV.d (.bl (decide p)) = AV.d (.bl (decide q)) := by
 have : decide p = decide q := by rw [Bool.eq_iff_iff, decide_eq_true_eq, decide_eq_true_eq, h]
 rw [this]
theorem bl_tr {a b : Bool} {v : AV} (h : a = b) (h2 : AV.d (.bl b) = v) : AV.d (.bl a) = v := by rw [h, h2]
end Go.Proofs.YthknbpijaoljgaaGreatDoor
namespace Go.Proofs.YthknbpijaoljgaaGreatDoor
open Go.Sy
def lenN (n : Nat) : Int := if n = 0 then 0 else if n = 1 then 1 else if n < 4 then 2 else 3
theorem len64_ok (n : Nat) (hn : n ≤ 4) : FnC Tryz.prog 195 [.d (.it .u64 n)] (.d (.it .i64 (lenN n))) := by
 refine FnC.intro ti_ok Tryz.func195 rfl Tryz.ntmps195 Tryz.call195 rfl (Nat.le_of_ble_eq_true rfl) rfl ?_
 match n, hn with
 | 0, _ =>
  (repeat' ((conv=>whnf);first|with_reducible refine gA ?_|refine at_lit (x := (0 : UInt8)) (by decide +kernel) (by decide +kernel) ?_ | with_reducible refine LetI.eq 0 (by with_unfolding_all exact rfl) ?_|(with_reducible first|refine gB ?_|refine gZ (fun x hx hu=>?_)|refine gY (fun x hx=>?_)|refine gE ?_|refine Both.mk ?_ ?_|refine gS (fun h=>?_) (fun h=>?_)|refine Spl.nt ?_|refine Spl.mk (fun h=>?_) (fun h=>?_))))
  with_unfolding_all exact rfl
 | 1, _ =>
  (repeat' ((conv=>whnf);first|with_reducible refine gA ?_|refine at_lit (x := (1 : UInt8)) (by decide +kernel) (by decide +kernel) ?_ | with_reducible refine LetI.eq 1 (by with_unfolding_all exact rfl) ?_|(with_reducible first|refine gB ?_|refine gZ (fun x hx hu=>?_)|refine gY (fun x hx=>?_)|refine gE ?_|refine Both.mk ?_ ?_|refine gS (fun h=>?_) (fun h=>?_)|refine Spl.nt ?_|refine Spl.mk (fun h=>?_) (fun h=>?_))))
  with_unfolding_all exact rfl
 | 2, _ =>
  (repeat' ((conv=>whnf);first|with_reducible refine gA ?_|refine at_lit (x := (2 : UInt8)) (by decide +kernel) (by decide +kernel) ?_ | with_reducible refine LetI.eq 2 (by with_unfolding_all exact rfl) ?_|(with_reducible first|refine gB ?_|refine gZ (fun x hx hu=>?_)|refine gY (fun x hx=>?_)|refine gE ?_|refine Both.mk ?_ ?_|refine gS (fun h=>?_) (fun h=>?_)|refine Spl.nt ?_|refine Spl.mk (fun h=>?_) (fun h=>?_))))
  with_unfolding_all exact rfl
 | 3, _ =>
  (repeat' ((conv=>whnf);first|with_reducible refine gA ?_|refine at_lit (x := (2 : UInt8)) (by decide +kernel) (by decide +kernel) ?_ | with_reducible refine LetI.eq 2 (by with_unfolding_all exact rfl) ?_|(with_reducible first|refine gB ?_|refine gZ (fun x hx hu=>?_)|refine gY (fun x hx=>?_)|refine gE ?_|refine Both.mk ?_ ?_|refine gS (fun h=>?_) (fun h=>?_)|refine Spl.nt ?_|refine Spl.mk (fun h=>?_) (fun h=>?_))))
  with_unfolding_all exact rfl
 | 4, _ =>
  (repeat' ((conv=>whnf);first|with_reducible refine gA ?_|refine at_lit (x := (3 : UInt8)) (by decide +kernel) (by decide +kernel) ?_ | with_reducible refine LetI.eq 3 (by with_unfolding_all exact rfl) ?_|(with_reducible first|refine gB ?_|refine gZ (fun x hx hu=>?_)|refine gY (fun x hx=>?_)|refine gE ?_|refine Both.mk ?_ ?_|refine gS (fun h=>?_) (fun h=>?_)|refine Spl.nt ?_|refine Spl.mk (fun h=>?_) (fun h=>?_))))
  with_unfolding_all exact rfl
theorem len_ok (n : Nat) (hn : n ≤ 4) : FnC Tryz.prog 172 [.d (.it .u64 n)] (.d (.it .i64 (lenN n))) := by
 refine FnC.intro ti_ok Tryz.func172 rfl Tryz.ntmps172 Tryz.call172 rfl (Nat.le_of_ble_eq_true rfl) rfl ?_
 have h := len64_ok n hn
 (repeat' ((conv=>whnf);first|with_reducible refine gA ?_|(refine CallE.con ⟨_, h, ?_⟩) | (refine CallP.mk ⟨_, h, ?_⟩)|(with_reducible first|refine gB ?_|refine gZ (fun x hx hu=>?_)|refine gY (fun x hx=>?_)|refine gE ?_|refine Both.mk ?_ ?_|refine gS (fun h=>?_) (fun h=>?_)|refine Spl.nt ?_|refine Spl.mk (fun h=>?_) (fun h=>?_))))
 rfl
end Go.Proofs.YthknbpijaoljgaaGreatDoor
namespace Go.Proofs.YthknbpijaoljgaaGreatDoor
open Go.Sy
def sortI (l : List Int) : List Int := l.mergeSort fun x y => decide (x ≤ y)
def vI (l : List Int) : List (List D) := l.map fun z => [.it .i64 z]
theorem sortI_ok (t : Nat) (fl : Bool) (zs : List Int) (h0 : 0 < zs.length) (hsz : zs.length < 4611686018427387904) : FnM Tryz.prog 159 true [.vx 1 0 0 zs.length] (.vec t 1 (vI zs) fl) (.vec t 1 (vI (sortI zs)) fl) (.tup []) :=
 FnM.ofRow (Value.int .i64) (fun z => .it .i64 z) (fun F x => .it _ _) (fun F x v h => by cases h; rfl) (m := none) (List.length_mergeSort _) h0 (fun q h => by cases h) Tryz.call159 (fun blk off cap w hH hb hc => (Tryz.slices_Sort_int blk off cap zs w hH hb hsz).mono fun e w' h => h)
theorem compactI_ok (t : Nat) (fl : Bool) (n : Nat) (zs : List Int) (hn : zs.length = n) (h0 : 0 < n) (hsz : n < 4611686018427387904) : FnM Tryz.prog 160 true [.vx 1 0 0 n] (.vec t 1 (vI zs) fl) (.vec t 1 (vI (Lib.compact zs ++ List.replicate (zs.length - (Lib.compact zs).length) 0)) fl) (.vx 1 0 0 (Lib.compact zs).length) := by
 subst hn
 exact FnM.ofRow (Value.int .i64) (fun z => .it .i64 z) (fun F x => .it _ _) (fun F x v h => by cases h; rfl) (m := some (Lib.compact zs).length) (by have := Lib.compact_length_le zs; simp; omega) h0 (fun q h => by cases h; exact Lib.compact_length_le zs) Tryz.call160 (fun blk off cap w hH hb hc => (Tryz.slices_Compact_int blk off cap zs w hH (by omega) hc).mono fun e w' ⟨h1, q, h2⟩ => ⟨h1, q, #[], by rw [Go.Sort.grow_empty]; exact h2⟩)
end Go.Proofs.YthknbpijaoljgaaGreatDoor
namespace Go.Proofs.YthknbpijaoljgaaGreatDoor
open Go.Sy
theorem ex_id {α : Type} {p : α → Prop} (h : ∃ x, p x) : ∃ x, p x := h
theorem _root_.Go.Sy.CallE.id {A B : Prop} (h : CallE A B) : CallE A B := h
theorem _root_.Go.Sy.CallI.id {P : Program} {N : Nat} {o : Oper} {σ : S} {f : Nat} {l : List AV} {K : S → Prop} (h : CallI P N o σ f l K) : CallI P N o σ f l K := h
def riT : Tr := (.cons 0 (.cons 1 (.cons 2 (.cons 3 (.cons 4 (.cons 5 (.cons 6 .nil .nil) .nil) .nil) .nil) .nil) (.cons 2 (.cons 1 (.cons 3 (.cons 4 (.cons 5 (.cons 6 .nil .nil) .nil) .nil) .nil) (.cons 3 (.cons 1 (.cons 4 (.cons 5 (.cons 6 .nil .nil) .nil) .nil) (.cons 4 (.cons 1 (.cons 5 (.cons 6 .nil .nil) .nil) .nil) .nil)) .nil)) .nil)) (.cons 2 (.cons 0 (.cons 1 (.cons 3 (.cons 4 (.cons 5 (.cons 6 .nil .nil) .nil) .nil) .nil) (.cons 3 (.cons 1 (.cons 4 (.cons 5 (.cons 6 .nil .nil) .nil) .nil) (.cons 4 (.cons 1 (.cons 5 (.cons 6 .nil .nil) .nil) .nil) .nil)) .nil)) (.cons 3 (.cons 0 (.cons 1 (.cons 4 (.cons 5 (.cons 6 .nil .nil) .nil) .nil) (.cons 4 (.cons 1 (.cons 5 (.cons 6 .nil .nil) .nil) .nil) .nil)) .nil) .nil)) .nil))
set_option maxHeartbeats 4000000 in
theorem ri1 (x : Ino) (hk : x.k = 1) (h1 : 0 ≤ x.z) (h2 : x.z ≤ 128) (hz : (x.z + 31) / 32 = 1) (hd : ((Lib.compact (sortI [x.b0])).length = 1 ↔ [x.b0].Nodup)) : FnC Tryz.prog 122 [.dg 6 (encI x)] (.d (.bl (decide (RI x)))) := by
 refine FnC.intro ti_ok Tryz.func122 rfl Tryz.ntmps122 Tryz.call122 rfl (Nat.le_of_ble_eq_true rfl) rfl ?_
 have hn := need_ok x.z h1 h2
 rw [hz] at hn
 (repeat' ((conv=>whnf);first|with_reducible refine gA ?_|((with_reducible refine ex_id ?_); refine ⟨[[.it .i64 x.b0]], ⟨by decide +kernel, rfl, by simp, rfl, by decide +kernel⟩, NilS.vec ⟨by with_unfolding_all exact rfl, ?_⟩⟩) | with_reducible refine draw_htree ti_ok mixed [0] riT (by decide +kernel) ?_ | with_reducible exact trivial | with_reducible refine Br.mk ?_ ?_ | ((with_reducible refine CallE.id ?_); first | (refine CallE.con ⟨_, hn, ?_⟩) | refine CallE.inl ?_) | ((with_reducible refine CallI.id ?_); first | with_reducible refine CallI.inl ti_ok i154 rfl ?_ | with_reducible refine CallI.inl ti_ok i157 rfl ?_ | with_reducible refine CallI.inl ti_ok i178 rfl ?_ | with_reducible refine CallI.inl ti_ok i156 rfl ?_ | with_reducible refine CallI.inl ti_ok i158 rfl ?_ | refine CallI.byM (sortI_ok _ _ [x.b0] (Nat.le_of_ble_eq_true rfl) (Nat.le_of_ble_eq_true rfl)) (by with_unfolding_all exact rfl) rfl ?_ | refine CallI.byM (compactI_ok _ _ 1 (sortI [x.b0]) (by simp [sortI]) (Nat.le_of_ble_eq_true rfl) (Nat.le_of_ble_eq_true rfl)) (by with_unfolding_all exact rfl) rfl ?_) | with_reducible refine LoopS.unroll ti_ok 5 ?_|(with_reducible first|refine gB ?_|refine gZ (fun x hx hu=>?_)|refine gY (fun x hx=>?_)|refine gE ?_|refine Both.mk ?_ ?_|refine gS (fun h=>?_) (fun h=>?_)|refine Spl.nt ?_|refine Spl.mk (fun h=>?_) (fun h=>?_))))
 all_goals try exact bl_ff (by unfold RI; omega)
 all_goals (conv => whnf)
 all_goals refine bl_dec (Iff.trans (show _ ↔ _ by omega) (hd.trans ?_))
 all_goals (unfold RI; simp only [List.nodup_cons, List.mem_cons, List.not_mem_nil, List.nodup_nil, not_or, or_false, false_or, not_false_eq_true, and_true, true_iff, List.nodup_nil, true_and]; omega)
set_option maxHeartbeats 4000000 in
theorem ri2 (x : Ino) (hk : x.k = 1) (h1 : 0 ≤ x.z) (h2 : x.z ≤ 128) (hz : (x.z + 31) / 32 = 2) (hd : ((Lib.compact (sortI [x.b0, x.b1])).length = 2 ↔ [x.b0, x.b1].Nodup)) : FnC Tryz.prog 122 [.dg 6 (encI x)] (.d (.bl (decide (RI x)))) := by
 refine FnC.intro ti_ok Tryz.func122 rfl Tryz.ntmps122 Tryz.call122 rfl (Nat.le_of_ble_eq_true rfl) rfl ?_
 have hn := need_ok x.z h1 h2
 rw [hz] at hn
 (repeat' ((conv=>whnf);first|with_reducible refine gA ?_|((with_reducible refine ex_id ?_); refine ⟨[[.it .i64 x.b0], [.it .i64 x.b1]], ⟨by decide +kernel, rfl, by simp, rfl, by decide +kernel⟩, NilS.vec ⟨by with_unfolding_all exact rfl, ?_⟩⟩) | with_reducible refine draw_htree ti_ok mixed [0] riT (by decide +kernel) ?_ | with_reducible exact trivial | with_reducible refine Br.mk ?_ ?_ | ((with_reducible refine CallE.id ?_); first | (refine CallE.con ⟨_, hn, ?_⟩) | refine CallE.inl ?_) | ((with_reducible refine CallI.id ?_); first | with_reducible refine CallI.inl ti_ok i154 rfl ?_ | with_reducible refine CallI.inl ti_ok i157 rfl ?_ | with_reducible refine CallI.inl ti_ok i178 rfl ?_ | with_reducible refine CallI.inl ti_ok i156 rfl ?_ | with_reducible refine CallI.inl ti_ok i158 rfl ?_ | refine CallI.byM (sortI_ok _ _ [x.b0, x.b1] (Nat.le_of_ble_eq_true rfl) (Nat.le_of_ble_eq_true rfl)) (by with_unfolding_all exact rfl) rfl ?_ | refine CallI.byM (compactI_ok _ _ 2 (sortI [x.b0, x.b1]) (by simp [sortI]) (Nat.le_of_ble_eq_true rfl) (Nat.le_of_ble_eq_true rfl)) (by with_unfolding_all exact rfl) rfl ?_) | with_reducible refine LoopS.unroll ti_ok 5 ?_|(with_reducible first|refine gB ?_|refine gZ (fun x hx hu=>?_)|refine gY (fun x hx=>?_)|refine gE ?_|refine Both.mk ?_ ?_|refine gS (fun h=>?_) (fun h=>?_)|refine Spl.nt ?_|refine Spl.mk (fun h=>?_) (fun h=>?_))))
 all_goals try exact bl_ff (by unfold RI; omega)
 all_goals (conv => whnf)
 all_goals refine bl_dec (Iff.trans (show _ ↔ _ by omega) (hd.trans ?_))
 all_goals (unfold RI; simp only [List.nodup_cons, List.mem_cons, List.not_mem_nil, List.nodup_nil, not_or, or_false, false_or, not_false_eq_true, and_true, true_iff, List.nodup_nil, true_and]; omega)
set_option maxHeartbeats 4000000 in
theorem ri3 (x : Ino) (hk : x.k = 1) (h1 : 0 ≤ x.z) (h2 : x.z ≤ 128) (hz : (x.z + 31) / 32 = 3) (hd : ((Lib.compact (sortI [x.b0, x.b1, x.b2])).length = 3 ↔ [x.b0, x.b1, x.b2].Nodup)) : FnC Tryz.prog 122 [.dg 6 (encI x)] (.d (.bl (decide (RI x)))) := by
 refine FnC.intro ti_ok Tryz.func122 rfl Tryz.ntmps122 Tryz.call122 rfl (Nat.le_of_ble_eq_true rfl) rfl ?_
 have hn := need_ok x.z h1 h2
 rw [hz] at hn
 (repeat' ((conv=>whnf);first|with_reducible refine gA ?_|((with_reducible refine ex_id ?_); refine ⟨[[.it .i64 x.b0], [.it .i64 x.b1], [.it .i64 x.b2]], ⟨by decide +kernel, rfl, by simp, rfl, by decide +kernel⟩, NilS.vec ⟨by with_unfolding_all exact rfl, ?_⟩⟩) | with_reducible refine draw_htree ti_ok mixed [0] riT (by decide +kernel) ?_ | with_reducible exact trivial | with_reducible refine Br.mk ?_ ?_ | ((with_reducible refine CallE.id ?_); first | (refine CallE.con ⟨_, hn, ?_⟩) | refine CallE.inl ?_) | ((with_reducible refine CallI.id ?_); first | with_reducible refine CallI.inl ti_ok i154 rfl ?_ | with_reducible refine CallI.inl ti_ok i157 rfl ?_ | with_reducible refine CallI.inl ti_ok i178 rfl ?_ | with_reducible refine CallI.inl ti_ok i156 rfl ?_ | with_reducible refine CallI.inl ti_ok i158 rfl ?_ | refine CallI.byM (sortI_ok _ _ [x.b0, x.b1, x.b2] (Nat.le_of_ble_eq_true rfl) (Nat.le_of_ble_eq_true rfl)) (by with_unfolding_all exact rfl) rfl ?_ | refine CallI.byM (compactI_ok _ _ 3 (sortI [x.b0, x.b1, x.b2]) (by simp [sortI]) (Nat.le_of_ble_eq_true rfl) (Nat.le_of_ble_eq_true rfl)) (by with_unfolding_all exact rfl) rfl ?_) | with_reducible refine LoopS.unroll ti_ok 5 ?_|(with_reducible first|refine gB ?_|refine gZ (fun x hx hu=>?_)|refine gY (fun x hx=>?_)|refine gE ?_|refine Both.mk ?_ ?_|refine gS (fun h=>?_) (fun h=>?_)|refine Spl.nt ?_|refine Spl.mk (fun h=>?_) (fun h=>?_))))
 all_goals try exact bl_ff (by unfold RI; omega)
 all_goals (conv => whnf)
 all_goals refine bl_dec (Iff.trans (show _ ↔ _ by omega) (hd.trans ?_))
 all_goals (unfold RI; simp only [List.nodup_cons, List.mem_cons, List.not_mem_nil, List.nodup_nil, not_or, or_false, false_or, not_false_eq_true, and_true, true_iff, List.nodup_nil, true_and]; omega)
set_option maxHeartbeats 4000000 in
theorem ri4 (x : Ino) (hk : x.k = 1) (h1 : 0 ≤ x.z) (h2 : x.z ≤ 128) (hz : (x.z + 31) / 32 = 4) (hd : ((Lib.compact (sortI [x.b0, x.b1, x.b2, x.b3])).length = 4 ↔ [x.b0, x.b1, x.b2, x.b3].Nodup)) : FnC Tryz.prog 122 [.dg 6 (encI x)] (.d (.bl (decide (RI x)))) := by
 refine FnC.intro ti_ok Tryz.func122 rfl Tryz.ntmps122 Tryz.call122 rfl (Nat.le_of_ble_eq_true rfl) rfl ?_
 have hn := need_ok x.z h1 h2
 rw [hz] at hn
 (repeat' ((conv=>whnf);first|with_reducible refine gA ?_|((with_reducible refine ex_id ?_); refine ⟨[[.it .i64 x.b0], [.it .i64 x.b1], [.it .i64 x.b2], [.it .i64 x.b3]], ⟨by decide +kernel, rfl, by simp, rfl, by decide +kernel⟩, NilS.vec ⟨by with_unfolding_all exact rfl, ?_⟩⟩) | with_reducible refine draw_htree ti_ok mixed [0] riT (by decide +kernel) ?_ | with_reducible exact trivial | with_reducible refine Br.mk ?_ ?_ | ((with_reducible refine CallE.id ?_); first | (refine CallE.con ⟨_, hn, ?_⟩) | refine CallE.inl ?_) | ((with_reducible refine CallI.id ?_); first | with_reducible refine CallI.inl ti_ok i154 rfl ?_ | with_reducible refine CallI.inl ti_ok i157 rfl ?_ | with_reducible refine CallI.inl ti_ok i178 rfl ?_ | with_reducible refine CallI.inl ti_ok i156 rfl ?_ | with_reducible refine CallI.inl ti_ok i158 rfl ?_ | refine CallI.byM (sortI_ok _ _ [x.b0, x.b1, x.b2, x.b3] (Nat.le_of_ble_eq_true rfl) (Nat.le_of_ble_eq_true rfl)) (by with_unfolding_all exact rfl) rfl ?_ | refine CallI.byM (compactI_ok _ _ 4 (sortI [x.b0, x.b1, x.b2, x.b3]) (by simp [sortI]) (Nat.le_of_ble_eq_true rfl) (Nat.le_of_ble_eq_true rfl)) (by with_unfolding_all exact rfl) rfl ?_) | with_reducible refine LoopS.unroll ti_ok 5 ?_|(with_reducible first|refine gB ?_|refine gZ (fun x hx hu=>?_)|refine gY (fun x hx=>?_)|refine gE ?_|refine Both.mk ?_ ?_|refine gS (fun h=>?_) (fun h=>?_)|refine Spl.nt ?_|refine Spl.mk (fun h=>?_) (fun h=>?_))))
 all_goals try exact bl_ff (by unfold RI; omega)
 all_goals (conv => whnf)
 all_goals refine bl_dec (Iff.trans (show _ ↔ _ by omega) (hd.trans ?_))
 all_goals (unfold RI; simp only [List.nodup_cons, List.mem_cons, List.not_mem_nil, List.nodup_nil, not_or, or_false, false_or, not_false_eq_true, and_true, true_iff, List.nodup_nil, true_and]; omega)
end Go.Proofs.YthknbpijaoljgaaGreatDoor
namespace Go.Proofs.YthknbpijaoljgaaGreatDoor
open Go.Sy
theorem sortI_len (l : List Int) : (sortI l).length = l.length := List.length_mergeSort _
theorem sortI_perm (l : List Int) : (sortI l).Perm l := List.mergeSort_perm _ _
theorem sortI_pw (l : List Int) : (sortI l).Pairwise (· ≤ ·) := by
 have := List.pairwise_mergeSort (le := fun x y : Int => decide (x ≤ y)) (fun a b c h1 h2 => by simp only [decide_eq_true_eq] at *; omega) (fun a b => by simp only [Bool.or_eq_true, decide_eq_true_eq]; omega) l
 exact this.imp fun h => by simpa using h
theorem compact_len {zs : List Int} (h : zs.Pairwise (· ≤ ·)) : (Lib.compact zs).length = zs.length ↔ zs.Nodup := by
 have e : (Lib.compact zs).length = zs.length ↔ ∀ j, j < zs.length → Lib.keeps zs.toArray j = true := by
  unfold Lib.compact Lib.compactUpTo
  rw [List.length_map]
  constructor
  ·intro hl j hj
   have hl2 : ((List.range zs.length).filter (Lib.keeps zs.toArray)).length = (List.range zs.length).length := by rw [hl, List.length_range]
   exact List.length_filter_eq_length_iff.1 hl2 j (List.mem_range.2 hj)
  ·intro hk
   rw [List.filter_eq_self.2 (fun j hj => hk j (List.mem_range.1 hj)), List.length_range]
 rw [e]
 have hle := List.pairwise_iff_getElem.1 h
 constructor
 ·intro hk
  refine List.pairwise_iff_getElem.2 fun i j hi hj hij => ?_
  have h1 := hk j hj
  simp only [Lib.keeps, decide_eq_true_eq] at h1
  have h2 : zs[j] ≠ zs[j - 1]'(by omega) := by
   rcases h1 with h1 | h1
   ·omega
   ·simpa [show j < zs.length from hj, show j - 1 < zs.length by omega] using h1
  have h3 := hle (j - 1) j (by omega) hj (by omega)
  by_cases h4 : i = j - 1
  ·subst h4; exact Ne.symm h2
  ·have h5 := hle i (j - 1) hi (by omega) (by omega)
   omega
 ·intro hn j hj
  simp only [Lib.keeps, decide_eq_true_eq]
  rcases Nat.eq_zero_or_pos j with h0 | h0
  ·exact .inl h0
  ·right
   have := List.pairwise_iff_getElem.1 hn (j - 1) j (by omega) hj (by omega)
   simpa [show j < zs.length from hj, show j - 1 < zs.length by omega] using Ne.symm this
theorem sorted_len (l : List Int) {n : Nat} (hl : l.length = n) : (Lib.compact (sortI l)).length = n ↔ l.Nodup := by
 rw [← hl, ← sortI_len l, compact_len (sortI_pw l)]
 exact (sortI_perm l).nodup_iff
theorem eqI6 (a b c d e f a' b' c' d' e' f' : Int) : eqDs [.it .i64 a, .it .i64 b, .it .i64 c, .it .i64 d, .it .i64 e, .it .i64 f] [.it .i64 a', .it .i64 b', .it .i64 c', .it .i64 d', .it .i64 e', .it .i64 f'] = decide (a = a' ∧ b = b' ∧ c = c' ∧ d = d' ∧ e = e' ∧ f = f') := by
 rw [Bool.eq_iff_iff]; simp [eqDs, eqD]
set_option maxHeartbeats 4000000 in
theorem riK (x : Ino) (hk : x.k ≠ 1 ∨ x.z < 0 ∨ 128 < x.z) : FnC Tryz.prog 122 [.dg 6 (encI x)] (.d (.bl (decide (RI x)))) := by
 refine FnC.intro ti_ok Tryz.func122 rfl Tryz.ntmps122 Tryz.call122 rfl (Nat.le_of_ble_eq_true rfl) rfl ?_
 (repeat' ((conv=>whnf);first|with_reducible refine gA ?_|(with_reducible first|refine gB ?_|refine gZ (fun x hx hu=>?_)|refine gY (fun x hx=>?_)|refine gE ?_|refine Both.mk ?_ ?_|refine gS (fun h=>?_) (fun h=>?_)|refine Spl.nt ?_|refine Spl.mk (fun h=>?_) (fun h=>?_))))
 all_goals first
  | exact bl_ff (by unfold RI; omega)
  | exact bl_tr (eqI6 _ _ _ _ _ _ _ _ _ _ _ _) (bl_dec (by unfold RI; omega))
set_option maxHeartbeats 4000000 in
theorem ri0 (x : Ino) (hk : x.k = 1) (h0 : x.z = 0) : FnC Tryz.prog 122 [.dg 6 (encI x)] (.d (.bl (decide (RI x)))) := by
 refine FnC.intro ti_ok Tryz.func122 rfl Tryz.ntmps122 Tryz.call122 rfl (Nat.le_of_ble_eq_true rfl) rfl ?_
 have hn := need_ok x.z (by omega) (by omega)
 rw [show (x.z + 31) / 32 = 0 by omega] at hn
 have hl := len_ok 0 (by decide)
 (repeat' ((conv=>whnf);first|with_reducible refine gA ?_|((with_reducible refine ex_id ?_); refine ⟨[], ⟨by decide +kernel, rfl, by simp, rfl, by decide +kernel⟩, NilS.vec ⟨by with_unfolding_all exact rfl, ?_⟩⟩) | with_reducible refine draw_htree ti_ok mixed [0] riT (by decide +kernel) ?_ | with_reducible exact trivial | with_reducible refine Br.mk ?_ ?_ | ((with_reducible refine CallE.id ?_); first | (refine CallE.con ⟨_, hn, ?_⟩) | (refine CallE.con ⟨_, hl, ?_⟩) | refine CallE.inl ?_) | ((with_reducible refine CallI.id ?_); first | with_reducible refine CallI.inl ti_ok i154 rfl ?_ | with_reducible refine CallI.inl ti_ok i157 rfl ?_ | with_reducible refine CallI.inl ti_ok i178 rfl ?_ | with_reducible refine CallI.inl ti_ok i156 rfl ?_ | with_reducible refine CallI.inl ti_ok i158 rfl ?_ | with_reducible refine CallI.inl ti_ok i159 rfl ?_ | with_reducible refine CallI.inl ti_ok i179 rfl ?_ | with_reducible refine CallI.inl ti_ok i199 rfl ?_ | with_reducible refine CallI.inl ti_ok i160 rfl ?_) | with_reducible refine LoopS.unroll ti_ok 5 ?_|(with_reducible first|refine gB ?_|refine gZ (fun x hx hu=>?_)|refine gY (fun x hx=>?_)|refine gE ?_|refine Both.mk ?_ ?_|refine gS (fun h=>?_) (fun h=>?_)|refine Spl.nt ?_|refine Spl.mk (fun h=>?_) (fun h=>?_))))
 all_goals first
  | exact bl_ff (by unfold RI; omega)
  | exact bl_tt (by unfold RI; omega)
theorem ri_ok (x : Ino) : FnC Tryz.prog 122 [.dg 6 (encI x)] (.d (.bl (decide (RI x)))) := by
 by_cases hk : x.k = 1 ∧ 0 ≤ x.z ∧ x.z ≤ 128
 ·obtain ⟨hk, h0, h1⟩ := hk
  rcases (by omega : x.z = 0 ∨ (x.z + 31) / 32 = 1 ∨ (x.z + 31) / 32 = 2 ∨ (x.z + 31) / 32 = 3 ∨ (x.z + 31) / 32 = 4) with h | h | h | h | h
  ·exact ri0 x hk h
  ·exact ri1 x hk h0 h1 h (sorted_len _ rfl)
  ·exact ri2 x hk h0 h1 h (sorted_len _ rfl)
  ·exact ri3 x hk h0 h1 h (sorted_len _ rfl)
  ·exact ri4 x hk h0 h1 h (sorted_len _ rfl)
 ·exact riK x (by omega)
end Go.Proofs.YthknbpijaoljgaaGreatDoor
namespace Go.Proofs.YthknbpijaoljgaaGreatDoor
open Go.Sy
def inoL (x : Ino) : List Int := [x.k, x.z, x.b0, x.b1, x.b2, x.b3, 0, 0, 0, 0, 0, 0, 0, 0, 0, 0, 0, 0, 0, 0, 0, 0, 0, 0, 0, 0, 0, 0, 0, 0, 0, 0]
def by8 (n : Int) : UInt8 := UInt8.ofNat n.toNat
def inoS (x : Ino) : List UInt8 := (inoL x).map by8
def encL (l : List Int) : List D := l.map (fun n => .it .u8 n)
theorem by8_ok {n : Int} (h : 0 ≤ n ∧ n < 256) : ((by8 n).toNat : Int) = n := by
 unfold by8
 rw [UInt8.toNat_ofNat']
 omega
theorem encL_S : ∀ {l : List Int}, (∀ n ∈ l, 0 ≤ n ∧ n < 256) → encL l = encS (l.map by8)
 | [], _ => rfl
 | n :: l, h => by
  show D.it .u8 n :: encL l = D.it .u8 (by8 n).toNat :: encS (l.map by8)
  rw [by8_ok (h n List.mem_cons_self), encL_S fun m hm => h m (List.mem_cons_of_mem _ hm)]
theorem RI_byte {x : Ino} (h : RI x) : ∀ n ∈ inoL x, 0 ≤ n ∧ n < 256 := by
 intro n hn
 unfold RI at h
 simp only [inoL, List.mem_cons, List.not_mem_nil, or_false] at hn
 omega
def inoR (x : Ino) : AV := if RI x then .tup [.dg 32 (encL (inoL x)), .d (.bl true)] else .tup [.dg 32 (encS zeroS), .d (.bl false)]
def inoT : Tr := (.cons 0 (.cons 1 (.cons 2 (.cons 3 (.cons 4 (.cons 5 (.cons 6 (.cons 7 (.cons 8 (.cons 9 .nil .nil) .nil) .nil) .nil) (.cons 6 (.cons 5 (.cons 7 (.cons 8 (.cons 9 .nil .nil) .nil) .nil) (.cons 7 (.cons 5 (.cons 8 (.cons 9 .nil .nil) .nil) .nil) .nil)) .nil)) (.cons 6 (.cons 4 (.cons 5 (.cons 7 (.cons 8 (.cons 9 .nil .nil) .nil) .nil) (.cons 7 (.cons 5 (.cons 8 (.cons 9 .nil .nil) .nil) .nil) .nil)) (.cons 7 (.cons 4 (.cons 5 (.cons 8 (.cons 9 .nil .nil) .nil) .nil) .nil) .nil)) .nil)) (.cons 6 (.cons 3 (.cons 4 (.cons 5 (.cons 7 (.cons 8 (.cons 9 .nil .nil) .nil) .nil) (.cons 7 (.cons 5 (.cons 8 (.cons 9 .nil .nil) .nil) .nil) .nil)) (.cons 7 (.cons 4 (.cons 5 (.cons 8 (.cons 9 .nil .nil) .nil) .nil) .nil) .nil)) (.cons 7 (.cons 3 (.cons 4 (.cons 5 (.cons 8 (.cons 9 .nil .nil) .nil) .nil) .nil) .nil) .nil)) .nil)) (.cons 3 (.cons 2 (.cons 4 (.cons 5 (.cons 6 (.cons 7 (.cons 8 (.cons 9 .nil .nil) .nil) .nil) .nil) (.cons 6 (.cons 5 (.cons 7 (.cons 8 (.cons 9 .nil .nil) .nil) .nil) (.cons 7 (.cons 5 (.cons 8 (.cons 9 .nil .nil) .nil) .nil) .nil)) .nil)) (.cons 6 (.cons 4 (.cons 5 (.cons 7 (.cons 8 (.cons 9 .nil .nil) .nil) .nil) (.cons 7 (.cons 5 (.cons 8 (.cons 9 .nil .nil) .nil) .nil) .nil)) (.cons 7 (.cons 4 (.cons 5 (.cons 8 (.cons 9 .nil .nil) .nil) .nil) .nil) .nil)) .nil)) (.cons 4 (.cons 2 (.cons 5 (.cons 6 (.cons 7 (.cons 8 (.cons 9 .nil .nil) .nil) .nil) .nil) (.cons 6 (.cons 5 (.cons 7 (.cons 8 (.cons 9 .nil .nil) .nil) .nil) (.cons 7 (.cons 5 (.cons 8 (.cons 9 .nil .nil) .nil) .nil) .nil)) .nil)) (.cons 5 (.cons 2 (.cons 6 (.cons 7 (.cons 8 (.cons 9 .nil .nil) .nil) .nil) .nil) .nil) .nil)) .nil)) .nil)) (.cons 3 (.cons 1 (.cons 2 (.cons 4 (.cons 5 (.cons 6 (.cons 7 (.cons 8 (.cons 9 .nil .nil) .nil) .nil) .nil) (.cons 6 (.cons 5 (.cons 7 (.cons 8 (.cons 9 .nil .nil) .nil) .nil) (.cons 7 (.cons 5 (.cons 8 (.cons 9 .nil .nil) .nil) .nil) .nil)) .nil)) (.cons 6 (.cons 4 (.cons 5 (.cons 7 (.cons 8 (.cons 9 .nil .nil) .nil) .nil) (.cons 7 (.cons 5 (.cons 8 (.cons 9 .nil .nil) .nil) .nil) .nil)) (.cons 7 (.cons 4 (.cons 5 (.cons 8 (.cons 9 .nil .nil) .nil) .nil) .nil) .nil)) .nil)) (.cons 4 (.cons 2 (.cons 5 (.cons 6 (.cons 7 (.cons 8 (.cons 9 .nil .nil) .nil) .nil) .nil) (.cons 6 (.cons 5 (.cons 7 (.cons 8 (.cons 9 .nil .nil) .nil) .nil) (.cons 7 (.cons 5 (.cons 8 (.cons 9 .nil .nil) .nil) .nil) .nil)) .nil)) (.cons 5 (.cons 2 (.cons 6 (.cons 7 (.cons 8 (.cons 9 .nil .nil) .nil) .nil) .nil) .nil) .nil)) .nil)) (.cons 4 (.cons 1 (.cons 2 (.cons 5 (.cons 6 (.cons 7 (.cons 8 (.cons 9 .nil .nil) .nil) .nil) .nil) (.cons 6 (.cons 5 (.cons 7 (.cons 8 (.cons 9 .nil .nil) .nil) .nil) (.cons 7 (.cons 5 (.cons 8 (.cons 9 .nil .nil) .nil) .nil) .nil)) .nil)) (.cons 5 (.cons 2 (.cons 6 (.cons 7 (.cons 8 (.cons 9 .nil .nil) .nil) .nil) .nil) .nil) .nil)) (.cons 5 (.cons 1 (.cons 2 (.cons 6 (.cons 7 (.cons 8 (.cons 9 .nil .nil) .nil) .nil) .nil) .nil) .nil) .nil)) .nil)) .nil)) (.cons 3 (.cons 0 (.cons 1 (.cons 2 (.cons 4 (.cons 5 (.cons 6 (.cons 7 (.cons 8 (.cons 9 .nil .nil) .nil) .nil) .nil) (.cons 6 (.cons 5 (.cons 7 (.cons 8 (.cons 9 .nil .nil) .nil) .nil) (.cons 7 (.cons 5 (.cons 8 (.cons 9 .nil .nil) .nil) .nil) .nil)) .nil)) (.cons 6 (.cons 4 (.cons 5 (.cons 7 (.cons 8 (.cons 9 .nil .nil) .nil) .nil) (.cons 7 (.cons 5 (.cons 8 (.cons 9 .nil .nil) .nil) .nil) .nil)) (.cons 7 (.cons 4 (.cons 5 (.cons 8 (.cons 9 .nil .nil) .nil) .nil) .nil) .nil)) .nil)) (.cons 4 (.cons 2 (.cons 5 (.cons 6 (.cons 7 (.cons 8 (.cons 9 .nil .nil) .nil) .nil) .nil) (.cons 6 (.cons 5 (.cons 7 (.cons 8 (.cons 9 .nil .nil) .nil) .nil) (.cons 7 (.cons 5 (.cons 8 (.cons 9 .nil .nil) .nil) .nil) .nil)) .nil)) (.cons 5 (.cons 2 (.cons 6 (.cons 7 (.cons 8 (.cons 9 .nil .nil) .nil) .nil) .nil) .nil) .nil)) .nil)) (.cons 4 (.cons 1 (.cons 2 (.cons 5 (.cons 6 (.cons 7 (.cons 8 (.cons 9 .nil .nil) .nil) .nil) .nil) (.cons 6 (.cons 5 (.cons 7 (.cons 8 (.cons 9 .nil .nil) .nil) .nil) (.cons 7 (.cons 5 (.cons 8 (.cons 9 .nil .nil) .nil) .nil) .nil)) .nil)) (.cons 5 (.cons 2 (.cons 6 (.cons 7 (.cons 8 (.cons 9 .nil .nil) .nil) .nil) .nil) .nil) .nil)) (.cons 5 (.cons 1 (.cons 2 (.cons 6 (.cons 7 (.cons 8 (.cons 9 .nil .nil) .nil) .nil) .nil) .nil) .nil) .nil)) .nil)) (.cons 4 (.cons 0 (.cons 1 (.cons 2 (.cons 5 (.cons 6 (.cons 7 (.cons 8 (.cons 9 .nil .nil) .nil) .nil) .nil) (.cons 6 (.cons 5 (.cons 7 (.cons 8 (.cons 9 .nil .nil) .nil) .nil) (.cons 7 (.cons 5 (.cons 8 (.cons 9 .nil .nil) .nil) .nil) .nil)) .nil)) (.cons 5 (.cons 2 (.cons 6 (.cons 7 (.cons 8 (.cons 9 .nil .nil) .nil) .nil) .nil) .nil) .nil)) (.cons 5 (.cons 1 (.cons 2 (.cons 6 (.cons 7 (.cons 8 (.cons 9 .nil .nil) .nil) .nil) .nil) .nil) .nil) .nil)) (.cons 5 (.cons 0 (.cons 1 (.cons 2 (.cons 6 (.cons 7 (.cons 8 (.cons 9 .nil .nil) .nil) .nil) .nil) .nil) .nil) .nil) .nil)) .nil)) .nil))
set_option maxHeartbeats 4000000 in
theorem ino_ok (x : Ino) : FnC Tryz.prog 84 [.dg 6 (encI x)] (inoR x) := by
 have hr := ri_ok x
 unfold inoR
 by_cases h : RI x
 ·rw [if_pos h]
  rw [decide_eq_true h] at hr
  have hb := RI_byte h
  have b0 := hb x.k (by simp [inoL])
  have b1 := hb x.z (by simp [inoL])
  have b2 := hb x.b0 (by simp [inoL])
  have b3 := hb x.b1 (by simp [inoL])
  have b4 := hb x.b2 (by simp [inoL])
  have b5 := hb x.b3 (by simp [inoL])
  clear hb
  refine FnC.intro ti_ok Tryz.func84 rfl Tryz.ntmps84 Tryz.call84 rfl (Nat.le_of_ble_eq_true rfl) rfl ?_
  (repeat' ((conv=>whnf);first|with_reducible refine gA ?_|((with_reducible refine CallE.id ?_); (refine CallE.con ⟨_, hr, ?_⟩)) | with_reducible refine AtA.mk' ?_|(with_reducible first|refine gB ?_|refine gZ (fun x hx hu=>?_)|refine gY (fun x hx=>?_)|refine gE ?_|refine Both.mk ?_ ?_|refine gS (fun h=>?_) (fun h=>?_)|refine Spl.nt ?_|refine Spl.mk (fun h=>?_) (fun h=>?_))))
  refine DrawS.join ⟨[(1, .ptr 0 0), (2, .ptr 1 0), (3, .d (.bl false)), (4, .ptr 2 0)], [(0, .cells 6 ((encI x).map .d)), (1, .cells 32 ((encS zeroS).map .d)), (2, .cells 32 ((encL (x.k :: x.z :: List.replicate 30 0)).map .d))], 3⟩ (draw_htree ti_ok mixed [] inoT (by decide +kernel) ?_) ?_
  ·(repeat' ((conv=>whnf);first|with_reducible refine gA ?_|with_reducible refine Br.mk ?_ ?_ | with_reducible exact trivial|(with_reducible first|refine gB ?_|refine gZ (fun x hx hu=>?_)|refine gY (fun x hx=>?_)|refine gE ?_|refine Both.mk ?_ ?_|refine gS (fun h=>?_) (fun h=>?_)|refine Spl.nt ?_|refine Spl.mk (fun h=>?_) (fun h=>?_))))
   all_goals exact Wk.en ⟨And.intro rfl (And.intro rfl (And.intro rfl (And.intro rfl trivial))), And.intro rfl (And.intro rfl (And.intro rfl trivial)), rfl⟩
  (repeat' ((conv=>whnf);first|with_reducible refine gA ?_|with_reducible refine LoopS.unroll ti_ok 5 ?_ | with_reducible refine AtA.mk' ?_|(with_reducible first|refine gB ?_|refine gZ (fun x hx hu=>?_)|refine gY (fun x hx=>?_)|refine gE ?_|refine Both.mk ?_ ?_|refine gS (fun h=>?_) (fun h=>?_)|refine Spl.nt ?_|refine Spl.mk (fun h=>?_) (fun h=>?_))))
  all_goals rfl
 ·rw [if_neg h]
  rw [decide_eq_false h] at hr
  refine FnC.intro ti_ok Tryz.func84 rfl Tryz.ntmps84 Tryz.call84 rfl (Nat.le_of_ble_eq_true rfl) rfl ?_
  (repeat' ((conv=>whnf);first|with_reducible refine gA ?_|((with_reducible refine CallE.id ?_); (refine CallE.con ⟨_, hr, ?_⟩)) | with_reducible refine AtA.mk' ?_|(with_reducible first|refine gB ?_|refine gZ (fun x hx hu=>?_)|refine gY (fun x hx=>?_)|refine gE ?_|refine Both.mk ?_ ?_|refine gS (fun h=>?_) (fun h=>?_)|refine Spl.nt ?_|refine Spl.mk (fun h=>?_) (fun h=>?_))))
  all_goals rfl
end Go.Proofs.YthknbpijaoljgaaGreatDoor
namespace Go.Proofs.YthknbpijaoljgaaGreatDoor
open Go.Sy
def inoOfR (s : List UInt8) : Ino := ⟨(s.getD 0 0).toNat, (s.getD 1 0).toNat, (s.getD 2 0).toNat, (s.getD 3 0).toNat, (s.getD 4 0).toNat, (s.getD 5 0).toNat⟩
def ino0 : Ino := ⟨0, 0, 0, 0, 0, 0⟩
def inoOfV (s : List UInt8) : AV := if RI (inoOfR s) ∧ s = inoS (inoOfR s) then .tup [.dg 6 (encI (inoOfR s)), .d (.bl true)] else .tup [.dg 6 (encI ino0), .d (.bl false)]
theorem byte_at {s : List UInt8} (hs : s.length = 32) (k : Nat) (hk : k < 32) : s[k]? = some (s.getD k 0) := by
 rw [List.getD_eq_getElem?_getD, List.getElem?_eq_getElem (by omega)]; rfl
set_option maxHeartbeats 4000000 in
theorem inoOf_ok (s : List UInt8) (hs : s.length = 32) : FnC Tryz.prog 109 [.dg 32 (encS s)] (inoOfV s) := by
 have hi := ino_ok (inoOfR s)
 unfold inoOfV
 have c0 := (s.getD 0 0).toNat_lt
 have c1 := (s.getD 1 0).toNat_lt
 have c2 := (s.getD 2 0).toNat_lt
 have c3 := (s.getD 3 0).toNat_lt
 have c4 := (s.getD 4 0).toNat_lt
 have c5 := (s.getD 5 0).toNat_lt
 by_cases h : RI (inoOfR s)
 ·rw [inoR, if_pos h, encL_S (RI_byte h)] at hi
  have hil : (inoS (inoOfR s)).length = 32 := rfl
  have he := eqS s (inoS (inoOfR s)) hs
  by_cases h2 : s = inoS (inoOfR s)
  ·rw [decide_eq_true h2] at he
   rw [if_pos ⟨h, h2⟩]
   refine FnC.intro ti_ok Tryz.func109 rfl Tryz.ntmps109 Tryz.call109 rfl (Nat.le_of_ble_eq_true rfl) rfl ?_
   (repeat' ((conv=>whnf);first|with_reducible refine gA ?_|((with_reducible refine CallE.id ?_); (refine CallE.con ⟨_, hi, ?_⟩)) | with_reducible refine LoopS.unroll ti_ok 5 ?_ | refine AtA.eq (ld_byte rfl (byte_at hs 0 (by decide))) ?_ | refine AtA.eq (ld_byte rfl (byte_at hs 1 (by decide))) ?_ | refine AtA.eq (ld_byte rfl (byte_at hs 2 (by decide))) ?_ | refine AtA.eq (ld_byte rfl (byte_at hs 3 (by decide))) ?_ | refine AtA.eq (ld_byte rfl (byte_at hs 4 (by decide))) ?_ | refine AtA.eq (ld_byte rfl (byte_at hs 5 (by decide))) ?_ | refine AtA.eq (ld_sec rfl rfl hs) ?_ | refine AtA.eq (ld_sec rfl rfl hil) ?_ | refine cond_tt (likeSS _ _ hs hil) ?_|(with_reducible first|refine gB ?_|refine gZ (fun x hx hu=>?_)|refine gY (fun x hx=>?_)|refine gE ?_|refine Both.mk ?_ ?_|refine gS (fun h=>?_) (fun h=>?_)|refine Spl.nt ?_|refine Spl.mk (fun h=>?_) (fun h=>?_))))
   all_goals rfl
  ·rw [decide_eq_false h2] at he
   rw [if_neg (fun q => h2 q.2)]
   refine FnC.intro ti_ok Tryz.func109 rfl Tryz.ntmps109 Tryz.call109 rfl (Nat.le_of_ble_eq_true rfl) rfl ?_
   (repeat' ((conv=>whnf);first|with_reducible refine gA ?_|((with_reducible refine CallE.id ?_); (refine CallE.con ⟨_, hi, ?_⟩)) | with_reducible refine LoopS.unroll ti_ok 5 ?_ | refine AtA.eq (ld_byte rfl (byte_at hs 0 (by decide))) ?_ | refine AtA.eq (ld_byte rfl (byte_at hs 1 (by decide))) ?_ | refine AtA.eq (ld_byte rfl (byte_at hs 2 (by decide))) ?_ | refine AtA.eq (ld_byte rfl (byte_at hs 3 (by decide))) ?_ | refine AtA.eq (ld_byte rfl (byte_at hs 4 (by decide))) ?_ | refine AtA.eq (ld_byte rfl (byte_at hs 5 (by decide))) ?_ | refine AtA.eq (ld_sec rfl rfl hs) ?_ | refine AtA.eq (ld_sec rfl rfl hil) ?_ | refine cond_tt (likeSS _ _ hs hil) ?_|(with_reducible first|refine gB ?_|refine gZ (fun x hx hu=>?_)|refine gY (fun x hx=>?_)|refine gE ?_|refine Both.mk ?_ ?_|refine gS (fun h=>?_) (fun h=>?_)|refine Spl.nt ?_|refine Spl.mk (fun h=>?_) (fun h=>?_))))
   all_goals rfl
 ·rw [inoR, if_neg h] at hi
  have hil : zeroS.length = 32 := rfl
  rw [if_neg (fun q => h q.1)]
  refine FnC.intro ti_ok Tryz.func109 rfl Tryz.ntmps109 Tryz.call109 rfl (Nat.le_of_ble_eq_true rfl) rfl ?_
  (repeat' ((conv=>whnf);first|with_reducible refine gA ?_|((with_reducible refine CallE.id ?_); (refine CallE.con ⟨_, hi, ?_⟩)) | with_reducible refine LoopS.unroll ti_ok 5 ?_ | refine AtA.eq (ld_byte rfl (byte_at hs 0 (by decide))) ?_ | refine AtA.eq (ld_byte rfl (byte_at hs 1 (by decide))) ?_ | refine AtA.eq (ld_byte rfl (byte_at hs 2 (by decide))) ?_ | refine AtA.eq (ld_byte rfl (byte_at hs 3 (by decide))) ?_ | refine AtA.eq (ld_byte rfl (byte_at hs 4 (by decide))) ?_ | refine AtA.eq (ld_byte rfl (byte_at hs 5 (by decide))) ?_ | refine AtA.eq (ld_sec rfl rfl hs) ?_ | refine AtA.eq (ld_sec rfl rfl hil) ?_ | refine cond_tt (likeSS _ _ hs hil) ?_|(with_reducible first|refine gB ?_|refine gZ (fun x hx hu=>?_)|refine gY (fun x hx=>?_)|refine gE ?_|refine Both.mk ?_ ?_|refine gS (fun h=>?_) (fun h=>?_)|refine Spl.nt ?_|refine Spl.mk (fun h=>?_) (fun h=>?_))))
  all_goals rfl
end Go.Proofs.YthknbpijaoljgaaGreatDoor
namespace Go.Proofs.YthknbpijaoljgaaGreatDoor
open Go.Sy
end Go.Proofs.YthknbpijaoljgaaGreatDoor
namespace Go.Proofs.YthknbpijaoljgaaGreatDoor
open Go.Sy
def entNm (s : List UInt8) : List UInt8 := if (s.getD 3 0).toNat ≤ 16 then (s.drop 16).take (s.getD 3 0).toNat else []
def entOfR (s : List UInt8) : Ent := ⟨true, (s.getD 1 0).toNat, entNm s, (s.getD 2 0).toNat⟩
def ent0 : Ent := ⟨false, 0, [], 0⟩
def isEnt (s : List UInt8) : Prop := RE (entOfR s) ∧ s = entS (entOfR s)
instance (s : List UInt8) : Decidable (isEnt s) := by unfold isEnt; infer_instance
def entOf (s : List UInt8) : Ent := if isEnt s then entOfR s else ent0
def entOk (s : List UInt8) : Bool := decide (s = zeroS ∨ isEnt s)
def entOfV (s : List UInt8) : AV := .tup [.dg 4 (encE (entOf s)), .d (.bl (entOk s))]
theorem zero_not : ¬ isEnt zeroS := by
 intro h
 have h1 := h.1
 unfold RE entOfR at h1
 rcases h1 with h1 | h1
 ·cases h1.1
 ·have : (1:Int) ≤ ((zeroS.getD 2 0).toNat : Int) := h1.2.2.2.1
  revert this; decide
set_option maxHeartbeats 4000000 in
theorem entOf_ok (s : List UInt8) (hs : s.length = 32) : FnC Tryz.prog 123 [.dg 32 (encS s)] (entOfV s) := by
 have hz := zero_ok s hs
 have c1 := (s.getD 1 0).toNat_lt
 have c2 := (s.getD 2 0).toNat_lt
 have c3 := (s.getD 3 0).toNat_lt
 have hc := cut_ok s hs (s.getD 3 0).toNat (by omega)
 have he := ent_ok (entOfR s)
 unfold entOfV
 by_cases h0 : s = zeroS
 ·subst h0
  rw [decide_eq_true rfl] at hz
  rw [show entOf zeroS = ent0 from if_neg zero_not, show entOk zeroS = true from decide_eq_true (.inl rfl)]
  refine FnC.intro ti_ok Tryz.func123 rfl Tryz.ntmps123 Tryz.call123 rfl (Nat.le_of_ble_eq_true rfl) rfl ?_
  (repeat' ((conv=>whnf);first|with_reducible refine gA ?_|((with_reducible refine callE_id ?_); (refine CallE.con ⟨_, hz, ?_⟩)) | with_reducible refine AtA.mk' ?_|(with_reducible first|refine gB ?_|refine gZ (fun x hx hu=>?_)|refine gY (fun x hx=>?_)|refine gE ?_|refine Both.mk ?_ ?_|refine gS (fun h=>?_) (fun h=>?_)|refine Spl.nt ?_|refine Spl.mk (fun h=>?_) (fun h=>?_))))
  all_goals rfl
 rw [decide_eq_false h0] at hz
 have hEq : encE (entOfR s) = [.bl true, .it .i64 (s.getD 1 0).toNat, .st (entNm s), .it .i64 (s.getD 2 0).toNat] := rfl
 by_cases h1 : RE (entOfR s)
 ·have hel := entS_len _ h1
  rw [entR, if_pos h1] at he
  have heq := eqS s (entS (entOfR s)) (by rw [hs, hel])
  by_cases h2 : s = entS (entOfR s)
  ·rw [show entOf s = entOfR s from if_pos ⟨h1, h2⟩, show entOk s = true from decide_eq_true (.inr ⟨h1, h2⟩)]
   rw [decide_eq_true h2] at heq
   refine FnC.intro ti_ok Tryz.func123 rfl Tryz.ntmps123 Tryz.call123 rfl (Nat.le_of_ble_eq_true rfl) rfl ?_
   (repeat' ((conv=>whnf);first|with_reducible refine gA ?_|((with_reducible refine callE_id ?_); first | (refine CallE.con ⟨_, hz, ?_⟩) | (refine CallE.con ⟨_, he, ?_⟩)) | refine CallP.mk ⟨_, hc, ?_⟩ | ((with_reducible refine drawS_id ?_); (refine draw_newA ti_ok mixed ?_)) | ((with_reducible refine letC_id ?_); refine LetC.mk ((encS (entS (entOfR s))).map AV.d) (st_all _) ?_) | refine AtA.eq (ld_byte rfl (byte_at hs 1 (by decide))) ?_ | refine AtA.eq (ld_byte rfl (byte_at hs 2 (by decide))) ?_ | refine AtA.eq (ld_byte rfl (byte_at hs 3 (by decide))) ?_ | refine AtA.eq (ld_sec rfl rfl hs) ?_ | refine AtA.eq (ld_sec rfl rfl hel) ?_ | refine cond_tt (likeSS _ _ hs hel) ?_ | ((with_reducible refine exi_id ?_); refine ⟨entNm s, rfl, ?_⟩)|(with_reducible first|refine gB ?_|refine gZ (fun x hx hu=>?_)|refine gY (fun x hx=>?_)|refine gE ?_|refine Both.mk ?_ ?_|refine gS (fun h=>?_) (fun h=>?_)|refine Spl.nt ?_|refine Spl.mk (fun h=>?_) (fun h=>?_))))
   all_goals rfl
  ·rw [show entOf s = ent0 from if_neg (fun q => h2 q.2), show entOk s = false from decide_eq_false (fun q => q.elim h0 fun q => h2 q.2)]
   rw [decide_eq_false h2] at heq
   refine FnC.intro ti_ok Tryz.func123 rfl Tryz.ntmps123 Tryz.call123 rfl (Nat.le_of_ble_eq_true rfl) rfl ?_
   (repeat' ((conv=>whnf);first|with_reducible refine gA ?_|((with_reducible refine callE_id ?_); first | (refine CallE.con ⟨_, hz, ?_⟩) | (refine CallE.con ⟨_, he, ?_⟩)) | refine CallP.mk ⟨_, hc, ?_⟩ | ((with_reducible refine drawS_id ?_); (refine draw_newA ti_ok mixed ?_)) | ((with_reducible refine letC_id ?_); refine LetC.mk ((encS (entS (entOfR s))).map AV.d) (st_all _) ?_) | refine AtA.eq (ld_byte rfl (byte_at hs 1 (by decide))) ?_ | refine AtA.eq (ld_byte rfl (byte_at hs 2 (by decide))) ?_ | refine AtA.eq (ld_byte rfl (byte_at hs 3 (by decide))) ?_ | refine AtA.eq (ld_sec rfl rfl hs) ?_ | refine AtA.eq (ld_sec rfl rfl hel) ?_ | refine cond_tt (likeSS _ _ hs hel) ?_ | ((with_reducible refine exi_id ?_); refine ⟨entNm s, rfl, ?_⟩)|(with_reducible first|refine gB ?_|refine gZ (fun x hx hu=>?_)|refine gY (fun x hx=>?_)|refine gE ?_|refine Both.mk ?_ ?_|refine gS (fun h=>?_) (fun h=>?_)|refine Spl.nt ?_|refine Spl.mk (fun h=>?_) (fun h=>?_))))
   all_goals rfl
 ·have hel : zeroS.length = 32 := rfl
  rw [entR, if_neg h1] at he
  rw [show entOf s = ent0 from if_neg (fun q => h1 q.1), show entOk s = false from decide_eq_false (fun q => q.elim h0 fun q => h1 q.1)]
  refine FnC.intro ti_ok Tryz.func123 rfl Tryz.ntmps123 Tryz.call123 rfl (Nat.le_of_ble_eq_true rfl) rfl ?_
  (repeat' ((conv=>whnf);first|with_reducible refine gA ?_|((with_reducible refine callE_id ?_); first | (refine CallE.con ⟨_, hz, ?_⟩) | (refine CallE.con ⟨_, he, ?_⟩)) | refine CallP.mk ⟨_, hc, ?_⟩ | ((with_reducible refine drawS_id ?_); (refine draw_newA ti_ok mixed ?_)) | ((with_reducible refine letC_id ?_); refine LetC.mk ((encS zeroS).map AV.d) (st_all _) ?_) | refine AtA.eq (ld_byte rfl (byte_at hs 1 (by decide))) ?_ | refine AtA.eq (ld_byte rfl (byte_at hs 2 (by decide))) ?_ | refine AtA.eq (ld_byte rfl (byte_at hs 3 (by decide))) ?_ | refine AtA.eq (ld_sec rfl rfl hs) ?_ | refine AtA.eq (ld_sec rfl rfl hel) ?_ | refine cond_tt (likeSS _ _ hs hel) ?_ | ((with_reducible refine exi_id ?_); refine ⟨entNm s, rfl, ?_⟩)|(with_reducible first|refine gB ?_|refine gZ (fun x hx hu=>?_)|refine gY (fun x hx=>?_)|refine gE ?_|refine Both.mk ?_ ?_|refine gS (fun h=>?_) (fun h=>?_)|refine Spl.nt ?_|refine Spl.mk (fun h=>?_) (fun h=>?_))))
  all_goals rfl
end Go.Proofs.YthknbpijaoljgaaGreatDoor
namespace Go.Proofs.YthknbpijaoljgaaGreatDoor
open Go.Sy
end Go.Proofs.YthknbpijaoljgaaGreatDoor
namespace Go.Proofs.YthknbpijaoljgaaGreatDoor
open Go.Sy
structure Wr where
 a : Int
 s : List UInt8
 k : Int
 i : Int
 e : Int
deriving DecidableEq
def encW (w : Wr) : List D := [.it .i64 w.a] ++ encS w.s ++ [.it .i64 w.k, .it .i64 w.i, .it .i64 w.e]
structure Dk where
 nx : Int
 safe : List (List UInt8)
 wait : List Wr
 log : List (List D)
 ep : Int
def encDk (d : Dk) : List D := [.an, .it .i64 d.nx, .fs 32 (d.safe.map encS), .fs 36 (d.wait.map encW), .fs 38 d.log, .it .i64 d.ep]
def encD : Option Dk → D
 | none => .ot (.pointer none)
 | some d => .fp 6 (encDk d)
def DkOK : Option Dk → Prop
 | none => True
 | some d => (∀ s ∈ d.safe, s.length = 32) ∧ (∀ w ∈ d.wait, w.s.length = 32) ∧ d.safe.length ≤ 65 ∧ d.wait.length ≤ 100000
def noneB : Option Dk → Bool
 | none => true
 | some d => decide (d.safe.length = 0)
def hasP (d : Option Dk) (n : Int) : Prop :=
 match d with
 | none => False
 | some d => 0 ≤ n ∧ n < d.safe.length
instance (d : Option Dk) (n : Int) : Decidable (hasP d n) := by unfold hasP; cases d <;> infer_instance
def lastAt (n : Int) (w : List Wr) : Option (List UInt8) := (w.reverse.find? (fun x => decide (x.a = n))).map (·.s)
def rdS (d : Option Dk) (n : Int) : List UInt8 :=
 match d with
 | none => zeroS
 | some d => if 0 ≤ n ∧ n < d.safe.length then (match lastAt n d.wait with | some s => s | none => d.safe.getD n.toNat zeroS) else zeroS
def rdE (d : Option Dk) (n : Int) : Int := if hasP d n then 0 else 1
theorem rdS_len {d : Option Dk} (h : DkOK d) (n : Int) : (rdS d n).length = 32 := by
 cases d with
 | none => rfl
 | some d =>
  obtain ⟨h1, h2, _⟩ := h
  simp only [rdS]
  split
  ·split
   ·rename_i s hs
    simp only [lastAt, Option.map_eq_some_iff] at hs
    obtain ⟨w, hw, rfl⟩ := hs
    exact h2 w (by simpa using List.mem_of_find?_eq_some hw)
   ·rw [List.getD_eq_getElem?_getD]
    cases hq : d.safe[n.toNat]? with
    | none => rfl
    | some s => exact h1 s (List.mem_of_getElem? hq)
  ·rfl
theorem none_ok (d : Option Dk) : FnC Tryz.prog 45 [.d (encD d)] (.d (.bl (noneB d))) := by
 cases d with
 | none =>
  refine FnC.intro ti_ok Tryz.func45 rfl Tryz.ntmps45 Tryz.call45 rfl (Nat.le_of_ble_eq_true rfl) rfl ?_
  (repeat' ((conv=>whnf);first|with_reducible refine gA ?_|(with_reducible first|refine gB ?_|refine gZ (fun x hx hu=>?_)|refine gY (fun x hx=>?_)|refine gE ?_|refine Both.mk ?_ ?_|refine gS (fun h=>?_) (fun h=>?_)|refine Spl.nt ?_|refine Spl.mk (fun h=>?_) (fun h=>?_))))
  rfl
 | some d =>
  refine FnC.intro ti_ok Tryz.func45 rfl Tryz.ntmps45 Tryz.call45 rfl (Nat.le_of_ble_eq_true rfl) rfl ?_
  (repeat' ((conv=>whnf);first|with_reducible refine gA ?_|(with_reducible first|refine gB ?_|refine gZ (fun x hx hu=>?_)|refine gY (fun x hx=>?_)|refine gE ?_|refine Both.mk ?_ ?_|refine gS (fun h=>?_) (fun h=>?_)|refine Spl.nt ?_|refine Spl.mk (fun h=>?_) (fun h=>?_))))
  refine bl_eq ?_
  show (((d.safe.map encS).length : Int) == 0) = decide (d.safe.length = 0)
  rw [List.length_map, Bool.eq_iff_iff, beq_iff_eq, decide_eq_true_eq]; omega
theorem has_ok (d : Option Dk) (n : Int) : FnC Tryz.prog 76 [.d (encD d), .d (.it .i64 n)] (.d (.bl (decide (hasP d n)))) := by
 have hn := none_ok d
 cases d with
 | none =>
  refine FnC.intro ti_ok Tryz.func76 rfl Tryz.ntmps76 Tryz.call76 rfl (Nat.le_of_ble_eq_true rfl) rfl ?_
  (repeat' ((conv=>whnf);first|with_reducible refine gA ?_|((with_reducible refine callE_id ?_); (refine CallE.con ⟨_, hn, ?_⟩))|(with_reducible first|refine gB ?_|refine gZ (fun x hx hu=>?_)|refine gY (fun x hx=>?_)|refine gE ?_|refine Both.mk ?_ ?_|refine gS (fun h=>?_) (fun h=>?_)|refine Spl.nt ?_|refine Spl.mk (fun h=>?_) (fun h=>?_))))
  rfl
 | some d =>
  by_cases h : d.safe.length = 0
  ·rw [show noneB (some d) = true from decide_eq_true h] at hn
   refine FnC.intro ti_ok Tryz.func76 rfl Tryz.ntmps76 Tryz.call76 rfl (Nat.le_of_ble_eq_true rfl) rfl ?_
   (repeat' ((conv=>whnf);first|with_reducible refine gA ?_|((with_reducible refine callE_id ?_); (refine CallE.con ⟨_, hn, ?_⟩))|(with_reducible first|refine gB ?_|refine gZ (fun x hx hu=>?_)|refine gY (fun x hx=>?_)|refine gE ?_|refine Both.mk ?_ ?_|refine gS (fun h=>?_) (fun h=>?_)|refine Spl.nt ?_|refine Spl.mk (fun h=>?_) (fun h=>?_))))
   exact bl_ff (by show ¬ (0 ≤ n ∧ n < d.safe.length); omega)
  ·rw [show noneB (some d) = false from decide_eq_false h] at hn
   refine FnC.intro ti_ok Tryz.func76 rfl Tryz.ntmps76 Tryz.call76 rfl (Nat.le_of_ble_eq_true rfl) rfl ?_
   (repeat' ((conv=>whnf);first|with_reducible refine gA ?_|((with_reducible refine callE_id ?_); (refine CallE.con ⟨_, hn, ?_⟩))|(with_reducible first|refine gB ?_|refine gZ (fun x hx hu=>?_)|refine gY (fun x hx=>?_)|refine gE ?_|refine Both.mk ?_ ?_|refine gS (fun h=>?_) (fun h=>?_)|refine Spl.nt ?_|refine Spl.mk (fun h=>?_) (fun h=>?_))))
   all_goals first
    | exact bl_ff (by show ¬ (0 ≤ n ∧ n < d.safe.length); omega)
    | exact bl_dec (by show n < ((d.safe.map encS).length : Int) ↔ (0 ≤ n ∧ n < (d.safe.length : Int)); rw [List.length_map]; omega)
theorem at_him {α β : Type} {e : α → β} {l : List α} {n : Int} {x : α} {K : β → Prop} (h0 : 0 ≤ n ∧ n < l.length) (hx : l[n.toNat]? = some x) (h : K (e x)) :
  (0 ≤ n ∧ n < (l.map e).length) ∧ ∀ c, (l.map e)[n.toNat]? = some c → K c :=
 at_intm h0 fun y hy => by rw [hx] at hy; obtain rfl := Option.some.inj hy; exact h
theorem encW_len {w : Wr} (h : w.s.length = 32) : (encW w).length = 36 := by unfold encW; simp [encS_len, h]
theorem st_tk {l : List D} {n : Nat} (h : l.length = n) : l.map AV.d = [] ++ (l.take n).map AV.d ++ [] := by
 rw [List.take_of_length_le (by omega), List.nil_append, List.append_nil]
theorem lastAt_hit {n : Int} {l : List Wr} {k : Nat} {w : Wr} (h : ∀ j, j < k → ∀ x, l.reverse[j]? = some x → x.a ≠ n) (hw : l.reverse[k]? = some w) (ha : w.a = n) : lastAt n l = some w.s := by
 unfold lastAt
 have hk := (List.getElem?_eq_some_iff.1 hw).1
 rw [List.find?_eq_some_iff_getElem.2 ⟨by simpa using ha, k, hk, (List.getElem?_eq_some_iff.1 hw).2, fun j hj => by
  have := h j hj _ (List.getElem?_eq_getElem (by omega))
  simpa using this⟩]
 rfl
theorem lastAt_none {n : Int} {l : List Wr} (h : ∀ j, j < l.length → ∀ x, l.reverse[j]? = some x → x.a ≠ n) : lastAt n l = none := by
 unfold lastAt
 rw [Option.map_eq_none_iff, List.find?_eq_none]
 intro x hx
 obtain ⟨j, hj, rfl⟩ := List.getElem_of_mem hx
 have := h j (by simpa using hj) _ (List.getElem?_eq_getElem hj)
 simpa using this
theorem hpd {d : Dk} {n : Int} : hasP (some d) n ↔ (0 ≤ n ∧ n < d.safe.length) := Iff.rfl
theorem ldW {w : Wr} (hs : w.s.length = 32) {ty : Ty} (ha : ty.kd.agg = true) (hz : ty.size = 32) : ldA ty 1 ((encW w).map AV.d) = .dg 32 (encS w.s) := by
 unfold ldA
 rw [ha, cond_true, hz]
 have h1 : (((encW w).map AV.d).drop 1).take 32 = (encS w.s).map AV.d := by
  show ((encS w.s ++ _).map AV.d).take 32 = _
  rw [List.map_append, List.take_append_of_le_length (by rw [List.length_map, encS_len, hs]; exact Nat.le_refl _), List.take_of_length_le (by rw [List.length_map, encS_len, hs]; exact Nat.le_refl _)]
 rw [h1]
 unfold mkAg
 rw [allD_map]
set_option maxHeartbeats 4000000 in
theorem read_ok (d : Option Dk) (hd : DkOK d) (n : Int) : FnC Tryz.prog 94 [.d (encD d), .d (.it .i64 n)] (.tup [.dg 32 (encS (rdS d n)), .d (.it .i64 (rdE d n))]) := by
 have hh := has_ok d n
 by_cases h : hasP d n
 rotate_left
 ·rw [decide_eq_false h] at hh
  rw [show rdE d n = 1 from if_neg h, show rdS d n = zeroS by cases d with | none => rfl | some d => exact if_neg h]
  refine FnC.intro ti_ok Tryz.func94 rfl Tryz.ntmps94 Tryz.call94 rfl (Nat.le_of_ble_eq_true rfl) rfl ?_
  (repeat' ((conv=>whnf);first|with_reducible refine gA ?_|((with_reducible refine callE_id ?_); (refine CallE.con ⟨_, hh, ?_⟩)) | with_reducible refine AtA.mk' ?_|(with_reducible first|refine gB ?_|refine gZ (fun x hx hu=>?_)|refine gY (fun x hx=>?_)|refine gE ?_|refine Both.mk ?_ ?_|refine gS (fun h=>?_) (fun h=>?_)|refine Spl.nt ?_|refine Spl.mk (fun h=>?_) (fun h=>?_))))
  rfl
 rw [decide_eq_true h] at hh
 cases d with
 | none => exact h.elim
 | some d =>
  obtain ⟨hd1, hd2, hd3, hd4⟩ := hd
  obtain ⟨h0, h1⟩ := hpd.1 h
  rw [show rdE (some d) n = 0 from if_pos h, show rdS (some d) n = (match lastAt n d.wait with | some s => s | none => d.safe.getD n.toNat zeroS) from if_pos h]
  generalize hR : (match lastAt n d.wait with | some s => s | none => d.safe.getD n.toNat zeroS) = R
  refine FnC.intro ti_ok Tryz.func94 rfl Tryz.ntmps94 Tryz.call94 rfl (Nat.le_of_ble_eq_true rfl) rfl ?_
  (repeat' ((conv=>whnf);first|with_reducible refine gA ?_|((with_reducible refine callE_id ?_); first | (refine CallE.con ⟨_, hh, ?_⟩) | refine CallE.inl ?_) | with_reducible refine CallI.inl ti_ok i126 rfl ?_ | with_reducible refine AtA.mk' ?_|(with_reducible first|refine gB ?_|refine gZ (fun x hx hu=>?_)|refine gY (fun x hx=>?_)|refine gE ?_|refine Both.mk ?_ ?_|refine gS (fun h=>?_) (fun h=>?_)|refine Spl.nt ?_|refine Spl.mk (fun h=>?_) (fun h=>?_))))
  refine RangeS.intro ti_ok i165 rfl rfl ?_
  (repeat' ((conv=>whnf);first|with_reducible refine gA ?_|(with_reducible first|refine gB ?_|refine gZ (fun x hx hu=>?_)|refine gY (fun x hx=>?_)|refine gE ?_|refine Both.mk ?_ ?_|refine gS (fun h=>?_) (fun h=>?_)|refine Spl.nt ?_|refine Spl.mk (fun h=>?_) (fun h=>?_))))
  have hwl : (d.wait.map encW).length = d.wait.length := List.length_map ..
  refine loop_mem0 ti_ok (fun k : Nat => k ≤ d.wait.length ∧ ∀ j, j < k → ∀ x, d.wait.reverse[j]? = some x → x.a ≠ n) (fun k => [(0, .yld 6), (1, .ptr 4 0), (3, .d (.it .i64 ((d.wait.length : Nat) - 1 - (k : Nat))))]) (fun k => d.wait.length - k) 0 ⟨Nat.zero_le _, fun j hj => by omega⟩ ⟨rfl, rfl, it_eq (by rw [hwl]; omega), trivial⟩ rfl ?_
  intro k ⟨k1, k2⟩
  rcases Nat.lt_or_ge k d.wait.length with hkl | hkl
  ·obtain ⟨w, hw⟩ := lt_get (l := d.wait) (k := d.wait.length - 1 - k) (by omega)
   have hw' : d.wait[((d.wait.length : Int) - 1 - k).toNat]? = some w := by rw [show ((d.wait.length : Int) - 1 - k).toNat = d.wait.length - 1 - k by omega]; exact hw
   have hrev : d.wait.reverse[k]? = some w := by rw [List.getElem?_reverse hkl]; exact hw
   have hws := hd2 w (List.mem_of_getElem? hw)
   (repeat' ((conv=>whnf);first|with_reducible refine gA ?_|with_reducible refine YieldI.intro ti_ok (by with_unfolding_all exact rfl) (by with_unfolding_all exact rfl) (by with_unfolding_all exact rfl) ?_ | ((with_reducible refine letC_id ?_); first | refine LetC.mk ((encW w).map AV.d) (st_tk (encW_len hws)) ?_ | refine LetC.mk ((encS w.s).map AV.d) (st_all _) ?_) | refine AtA.eq (ldW hws rfl rfl) ?_ | with_reducible refine AtA.mk' ?_ | with_reducible refine at_him (x := w) (by omega) hw' ?_|(with_reducible first|refine gB ?_|refine gZ (fun x hx hu=>?_)|refine gY (fun x hx=>?_)|refine gE ?_|refine Both.mk ?_ ?_|refine gS (fun h=>?_) (fun h=>?_)|refine Spl.nt ?_|refine Spl.mk (fun h=>?_) (fun h=>?_))))
   ·have : R = w.s := by rw [← hR, lastAt_hit k2 hrev (by assumption)]
    subst this
    conv => whnf
    conv in (ldA _ _ _) => tactic => exact ld_sec rfl rfl hws
    rfl
   ·refine againM0 (k + 1) ⟨by omega, fun j hj x hx => ?_⟩ (by dsimp only; omega) (And.intro rfl (And.intro rfl (And.intro (it_eq (by omega)) trivial))) (by (repeat (first | exact trivial | refine And.intro rfl ?_))) rfl
    rcases Nat.lt_or_ge j k with hjk | hjk
    ·exact k2 j hjk x hx
    ·obtain rfl : j = k := by omega
     obtain rfl : w = x := Option.some.inj (hrev.symm.trans hx)
     assumption
  ·have : R = d.safe.getD n.toNat zeroS := by rw [← hR, lastAt_none (fun j hj => k2 j (by omega))]
   obtain ⟨s, hsn⟩ := lt_get (l := d.safe) (k := n.toNat) (by omega)
   have hsl := hd1 s (List.mem_of_getElem? hsn)
   rw [List.getD_eq_getElem?_getD, hsn] at this
   have this : R = s := this
   rw [this]
   (repeat' ((conv=>whnf);first|with_reducible refine gA ?_|((with_reducible refine letC_id ?_); refine LetC.mk ((encS s).map AV.d) (st_tk (by rw [encS_len]; exact hsl)) ?_) | with_reducible refine AtA.mk' ?_ | with_reducible refine at_him (x := s) (by omega) hsn ?_|(with_reducible first|refine gB ?_|refine gZ (fun x hx hu=>?_)|refine gY (fun x hx=>?_)|refine gE ?_|refine Both.mk ?_ ?_|refine gS (fun h=>?_) (fun h=>?_)|refine Spl.nt ?_|refine Spl.mk (fun h=>?_) (fun h=>?_))))
   conv => whnf
   conv in (ldA _ _ _) => tactic => exact ld_sec rfl rfl hsl
   rfl
end Go.Proofs.YthknbpijaoljgaaGreatDoor
namespace Go.Proofs.YthknbpijaoljgaaGreatDoor
open Go.Sy
def inoB (s : List UInt8) : Prop := RI (inoOfR s) ∧ s = inoS (inoOfR s)
instance (s : List UInt8) : Decidable (inoB s) := by unfold inoB; infer_instance
def inoOf (s : List UInt8) : Ino := if inoB s then inoOfR s else ino0
theorem inoOfV_eq (s : List UInt8) : inoOfV s = .tup [.dg 6 (encI (inoOf s)), .d (.bl (decide (inoB s)))] := by
 unfold inoOfV inoOf
 by_cases h : inoB s
 ·have h' : RI (inoOfR s) ∧ s = inoS (inoOfR s) := h
  rw [if_pos h', if_pos h, decide_eq_true h]
 ·have h' : ¬ (RI (inoOfR s) ∧ s = inoS (inoOfR s)) := h
  rw [if_neg h', if_neg h, decide_eq_false h]
def inoAt (f : Int → List UInt8) (n : Int) : Ino := if 0 ≤ n ∧ n < 16 then inoOf (f (1 + n)) else ino0
def entAt (f : Int → List UInt8) (k : Int) : Ent := if 0 ≤ k ∧ k < 24 then entOf (f (17 + k)) else ent0
def imS (m : List (List UInt8)) (n : Int) : List UInt8 := m.getD n.toNat zeroS
def ImOK (m : List (List UInt8)) : Prop := ∀ s ∈ m, s.length = 32
abbrev encM (m : List (List UInt8)) : D := .fs 32 (m.map encS)
theorem at_ok (d : Option Dk) (hd : DkOK d) (n : Int) : FnC Tryz.prog 110 [.d (encD d), .d (.it .i64 n)] (.dg 32 (encS (rdS d n))) := by
 have hr := read_ok d hd n
 have hl := rdS_len hd n
 refine FnC.intro ti_ok Tryz.func110 rfl Tryz.ntmps110 Tryz.call110 rfl (Nat.le_of_ble_eq_true rfl) rfl ?_
 (repeat' ((conv=>whnf);first|with_reducible refine gA ?_|((with_reducible refine callE_id ?_); (refine CallE.con ⟨_, hr, ?_⟩)) | ((with_reducible refine letC_id ?_); refine LetC.mk ((encS (rdS d n)).map AV.d) (st_all _) ?_) | refine AtA.eq (ld_sec rfl rfl hl) ?_|(with_reducible first|refine gB ?_|refine gZ (fun x hx hu=>?_)|refine gY (fun x hx=>?_)|refine gE ?_|refine Both.mk ?_ ?_|refine gS (fun h=>?_) (fun h=>?_)|refine Spl.nt ?_|refine Spl.mk (fun h=>?_) (fun h=>?_))))
 conv => whnf
 conv in (ldA _ _ _) => tactic => exact ld_sec rfl rfl hl
 rfl
theorem inode_ok (d : Option Dk) (hd : DkOK d) (n : Int) : FnC Tryz.prog 72 [.d (encD d), .d (.it .i64 n)] (.dg 6 (encI (inoAt (rdS d) n))) := by
 by_cases h : 0 ≤ n ∧ n < 16
 ·have ha := at_ok d hd (1 + n)
  have hi := inoOf_ok (rdS d (1 + n)) (rdS_len hd _)
  rw [inoOfV_eq] at hi
  rw [show inoAt (rdS d) n = inoOf (rdS d (1 + n)) from if_pos h]
  refine FnC.intro ti_ok Tryz.func72 rfl Tryz.ntmps72 Tryz.call72 rfl (Nat.le_of_ble_eq_true rfl) rfl ?_
  (repeat' ((conv=>whnf);first|with_reducible refine gA ?_|((with_reducible refine callE_id ?_); first | (refine CallE.con ⟨_, ha, ?_⟩) | (refine CallE.con ⟨_, hi, ?_⟩))|(with_reducible first|refine gB ?_|refine gZ (fun x hx hu=>?_)|refine gY (fun x hx=>?_)|refine gE ?_|refine Both.mk ?_ ?_|refine gS (fun h=>?_) (fun h=>?_)|refine Spl.nt ?_|refine Spl.mk (fun h=>?_) (fun h=>?_))))
  rfl
 ·rw [show inoAt (rdS d) n = ino0 from if_neg h]
  refine FnC.intro ti_ok Tryz.func72 rfl Tryz.ntmps72 Tryz.call72 rfl (Nat.le_of_ble_eq_true rfl) rfl ?_
  by_cases h0 : n < 0
  all_goals (repeat' ((conv=>whnf);first|with_reducible refine gA ?_|(with_reducible first|refine gB ?_|refine gZ (fun x hx hu=>?_)|refine gY (fun x hx=>?_)|refine gE ?_|refine Both.mk ?_ ?_|refine gS (fun h=>?_) (fun h=>?_)|refine Spl.nt ?_|refine Spl.mk (fun h=>?_) (fun h=>?_))))
  all_goals first | omega | rfl
theorem entry_ok (d : Option Dk) (hd : DkOK d) (n : Int) : FnC Tryz.prog 85 [.d (encD d), .d (.it .i64 n)] (.dg 4 (encE (entAt (rdS d) n))) := by
 by_cases h : 0 ≤ n ∧ n < 24
 ·have ha := at_ok d hd (17 + n)
  have hi := entOf_ok (rdS d (17 + n)) (rdS_len hd _)
  rw [entOfV] at hi
  rw [show entAt (rdS d) n = entOf (rdS d (17 + n)) from if_pos h]
  refine FnC.intro ti_ok Tryz.func85 rfl Tryz.ntmps85 Tryz.call85 rfl (Nat.le_of_ble_eq_true rfl) rfl ?_
  (repeat' ((conv=>whnf);first|with_reducible refine gA ?_|((with_reducible refine callE_id ?_); first | (refine CallE.con ⟨_, ha, ?_⟩) | (refine CallE.con ⟨_, hi, ?_⟩))|(with_reducible first|refine gB ?_|refine gZ (fun x hx hu=>?_)|refine gY (fun x hx=>?_)|refine gE ?_|refine Both.mk ?_ ?_|refine gS (fun h=>?_) (fun h=>?_)|refine Spl.nt ?_|refine Spl.mk (fun h=>?_) (fun h=>?_))))
  rfl
 ·rw [show entAt (rdS d) n = ent0 from if_neg h]
  refine FnC.intro ti_ok Tryz.func85 rfl Tryz.ntmps85 Tryz.call85 rfl (Nat.le_of_ble_eq_true rfl) rfl ?_
  by_cases h0 : n < 0
  all_goals (repeat' ((conv=>whnf);first|with_reducible refine gA ?_|(with_reducible first|refine gB ?_|refine gZ (fun x hx hu=>?_)|refine gY (fun x hx=>?_)|refine gE ?_|refine Both.mk ?_ ?_|refine gS (fun h=>?_) (fun h=>?_)|refine Spl.nt ?_|refine Spl.mk (fun h=>?_) (fun h=>?_))))
  all_goals first | omega | rfl
end Go.Proofs.YthknbpijaoljgaaGreatDoor
namespace Go.Proofs.YthknbpijaoljgaaGreatDoor
open Go.Sy
def takP (f : Int → List UInt8) (n : Int) : Prop := n = 0 ∨ ∃ k : Nat, k < 24 ∧ (entAt f k).u = true ∧ (entAt f k).t = n
instance (f : Int → List UInt8) (n : Int) : Decidable (takP f n) := by unfold takP; infer_instance
def superS : List UInt8 := [70, 76, 79, 84, 0, 0, 0, 0, 0, 0, 0, 0, 0, 0, 0, 0, 0, 0, 0, 0, 0, 0, 0, 0, 0, 0, 0, 0, 0, 0, 0, 0]
theorem refSuper_ok : FnC Tryz.prog 74 [] (.dg 32 (encS superS)) := by
 refine FnC.intro ti_ok Tryz.func74 rfl Tryz.ntmps74 Tryz.call74 rfl (Nat.le_of_ble_eq_true rfl) rfl ?_
 (repeat' ((conv=>whnf);first|with_reducible refine gA ?_|with_reducible refine AtA.mk' ?_|(with_reducible first|refine gB ?_|refine gZ (fun x hx hu=>?_)|refine gY (fun x hx=>?_)|refine gE ?_|refine Both.mk ?_ ?_|refine gS (fun h=>?_) (fun h=>?_)|refine Spl.nt ?_|refine Spl.mk (fun h=>?_) (fun h=>?_))))
 rfl
end Go.Proofs.YthknbpijaoljgaaGreatDoor
