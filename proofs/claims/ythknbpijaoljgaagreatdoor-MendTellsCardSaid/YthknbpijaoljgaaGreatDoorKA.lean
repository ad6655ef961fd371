/- Contracts of the functions that the law reaches, and the law. Conditions: none. -/
import Derived.Test.YthknbpijaoljgaaGreatDoorProg
import Derived.Test.YthknbpijaoljgaaGreatDoorSD
import Derived.KernelRfl
import Derived.Laws.Externs
import Derived.Shelf.Strings.Builder1
import Derived.Shelf.Strings.Builder2
import Derived.Shelf.Strings.OnBuilder
import Derived.Shelf.Small.Utf8
import Derived.Shelf.Small.Strs
import Derived.Shelf.Small.Wraps
import Derived.Shelf.Strings.Search1
import Derived.Shelf.Strings.Search2
import Derived.Shelf.Strings.Search3
import Derived.Shelf.Strings.Count
import Derived.Shelf.LaysM
import Derived.Shelf.Sort.Plain
import Derived.Ground.Names2Prog
import Derived.Shelf.Slices.CompactI
import Derived.Shelf.Slices.CompactS
import Derived.Shelf.Slices.In.SortNone
import Derived.Test.YthknbpijaoljgaaGreatDoorSC
import Derived.Lib.RowBridge
set_option maxRecDepth 100000
set_option linter.all false
namespace Go.Proofs.YthknbpijaoljgaaGreatDoor
open Go.Sy
def tyL : List (Nat × Ty) := [
 (0, { kd := .other, size := 1, bytes := 0, zero := [], cmp := .none, pl := [] }),
 (1, { kd := .func, size := 1, bytes := 8, zero := [.ot .nilFunc], cmp := .none, pl := [] }),
 (2, { kd := .int .i64, size := 1, bytes := 8, zero := [.it .i64 0], cmp := .some [.it .i64 0], pl := [] }),
 (3, { kd := .int .i64, size := 1, bytes := 8, zero := [.it .i64 0], cmp := .some [.it .i64 0], pl := [] }),
 (4, { kd := .bool, size := 1, bytes := 1, zero := [.bl Bool.false], cmp := .some [.bl Bool.false], pl := [] }),
 (5, { kd := .int .u8, size := 1, bytes := 1, zero := [.it .u8 0], cmp := .some [.it .u8 0], pl := [] }),
 (6, { kd := .int .u8, size := 1, bytes := 1, zero := [.it .u8 0], cmp := .some [.it .u8 0], pl := [] }),
 (7, { kd := .struct [(0, 2), (1, 3), (2, 4), (3, 6)], size := 4, bytes := 24, zero := [.it .i64 0, .it .i64 0, .bl Bool.false, .it .u8 0], cmp := .some [.it .i64 0, .it .i64 0, .bl Bool.false, .it .u8 0], pl := [(0, 1), (1, 1), (2, 1), (3, 1)] }),
 (8, { kd := .struct [(0, 2), (1, 3), (2, 4), (3, 6)], size := 4, bytes := 24, zero := [.it .i64 0, .it .i64 0, .bl Bool.false, .it .u8 0], cmp := .some [.it .i64 0, .it .i64 0, .bl Bool.false, .it .u8 0], pl := [(0, 1), (1, 1), (2, 1), (3, 1)] }),
 (9, { kd := .string, size := 1, bytes := 16, zero := [.st []], cmp := .some [.st []], pl := [] }),
 (10, { kd := .string, size := 1, bytes := 16, zero := [.st []], cmp := .some [.st []], pl := [] }),
 (11, { kd := .string, size := 1, bytes := 16, zero := [.st []], cmp := .some [.st []], pl := [] }),
 (12, { kd := .int .u64, size := 1, bytes := 8, zero := [.it .u64 0], cmp := .some [.it .u64 0], pl := [] }),
 (13, { kd := .struct [(0, 9), (1, 12)], size := 2, bytes := 24, zero := [.st [], .it .u64 0], cmp := .none, pl := [(0, 1), (1, 1)] }),
 (14, { kd := .struct [(0, 9), (1, 12)], size := 2, bytes := 24, zero := [.st [], .it .u64 0], cmp := .none, pl := [(0, 1), (1, 1)] }),
 (15, { kd := .ptr 301, size := 1, bytes := 8, zero := [.ot (.pointer .none)], cmp := .none, pl := [] }),
 (16, { kd := .ptr 304, size := 1, bytes := 8, zero := [.ot (.pointer .none)], cmp := .none, pl := [] }),
 (17, { kd := .ptr 312, size := 1, bytes := 8, zero := [.ot (.pointer .none)], cmp := .none, pl := [] }),
 (18, { kd := .struct [(0, 17)], size := 1, bytes := 8, zero := [.ot (.pointer .none)], cmp := .none, pl := [(0, 1)] }),
 (19, { kd := .struct [(0, 17)], size := 1, bytes := 8, zero := [.ot (.pointer .none)], cmp := .none, pl := [(0, 1)] }),
 (20, { kd := .other, size := 1, bytes := 16, zero := [.ot .nilIface], cmp := .none, pl := [] }),
 (21, { kd := .int .i32, size := 1, bytes := 4, zero := [.it .i32 0], cmp := .some [.it .i32 0], pl := [] }),
 (22, { kd := .slice 34, size := 1, bytes := 24, zero := [.fs 32 []], cmp := .none, pl := [] }),
 (23, { kd := .slice 38, size := 1, bytes := 24, zero := [.fs 36 []], cmp := .none, pl := [] }),
 (24, { kd := .slice 3, size := 1, bytes := 24, zero := [.fs 1 []], cmp := .none, pl := [] }),
 (25, { kd := .func, size := 1, bytes := 8, zero := [.ot .nilFunc], cmp := .none, pl := [] }),
 (26, { kd := .ptr 104, size := 1, bytes := 8, zero := [.ot (.pointer .none)], cmp := .none, pl := [] }),
 (27, { kd := .func, size := 1, bytes := 8, zero := [.ot .nilFunc], cmp := .none, pl := [] }),
 (28, { kd := .ptr 53, size := 1, bytes := 8, zero := [.ot (.pointer .none)], cmp := .none, pl := [] }),
 (29, { kd := .int .i64, size := 1, bytes := 8, zero := [.it .i64 0], cmp := .some [.it .i64 0], pl := [] }),
 (30, { kd := .other, size := 1, bytes := 0, zero := [], cmp := .none, pl := [] }),
 (32, { kd := .func, size := 1, bytes := 8, zero := [.ot .nilFunc], cmp := .none, pl := [] }),
 (34, { kd := .arr 32 5, size := 32, bytes := 32, zero := [.it .u8 0, .it .u8 0, .it .u8 0, .it .u8 0, .it .u8 0, .it .u8 0, .it .u8 0, .it .u8 0, .it .u8 0, .it .u8 0, .it .u8 0, .it .u8 0, .it .u8 0, .it .u8 0, .it .u8 0, .it .u8 0, .it .u8 0, .it .u8 0, .it .u8 0, .it .u8 0, .it .u8 0, .it .u8 0, .it .u8 0, .it .u8 0, .it .u8 0, .it .u8 0, .it .u8 0, .it .u8 0, .it .u8 0, .it .u8 0, .it .u8 0, .it .u8 0], cmp := .some [.it .u8 0, .it .u8 0, .it .u8 0, .it .u8 0, .it .u8 0, .it .u8 0, .it .u8 0, .it .u8 0, .it .u8 0, .it .u8 0, .it .u8 0, .it .u8 0, .it .u8 0, .it .u8 0, .it .u8 0, .it .u8 0, .it .u8 0, .it .u8 0, .it .u8 0, .it .u8 0, .it .u8 0, .it .u8 0, .it .u8 0, .it .u8 0, .it .u8 0, .it .u8 0, .it .u8 0, .it .u8 0, .it .u8 0, .it .u8 0, .it .u8 0, .it .u8 0], pl := [] }),
 (36, { kd := .struct [(0, 3), (1, 3)], size := 2, bytes := 16, zero := [.it .i64 0, .it .i64 0], cmp := .some [.it .i64 0, .it .i64 0], pl := [(0, 1), (1, 1)] }),
 (38, { kd := .struct [(0, 3), (1, 34), (33, 36), (35, 3)], size := 36, bytes := 64, zero := [.it .i64 0, .it .u8 0, .it .u8 0, .it .u8 0, .it .u8 0, .it .u8 0, .it .u8 0, .it .u8 0, .it .u8 0, .it .u8 0, .it .u8 0, .it .u8 0, .it .u8 0, .it .u8 0, .it .u8 0, .it .u8 0, .it .u8 0, .it .u8 0, .it .u8 0, .it .u8 0, .it .u8 0, .it .u8 0, .it .u8 0, .it .u8 0, .it .u8 0, .it .u8 0, .it .u8 0, .it .u8 0, .it .u8 0, .it .u8 0, .it .u8 0, .it .u8 0, .it .u8 0, .it .i64 0, .it .i64 0, .it .i64 0], cmp := .some [.it .i64 0, .it .u8 0, .it .u8 0, .it .u8 0, .it .u8 0, .it .u8 0, .it .u8 0, .it .u8 0, .it .u8 0, .it .u8 0, .it .u8 0, .it .u8 0, .it .u8 0, .it .u8 0, .it .u8 0, .it .u8 0, .it .u8 0, .it .u8 0, .it .u8 0, .it .u8 0, .it .u8 0, .it .u8 0, .it .u8 0, .it .u8 0, .it .u8 0, .it .u8 0, .it .u8 0, .it .u8 0, .it .u8 0, .it .u8 0, .it .u8 0, .it .u8 0, .it .u8 0, .it .i64 0, .it .i64 0, .it .i64 0], pl := [(0, 1), (1, 32), (33, 2), (35, 1)] }),
 (40, { kd := .other, size := 1, bytes := 0, zero := [], cmp := .none, pl := [] }),
 (45, { kd := .other, size := 1, bytes := 0, zero := [], cmp := .none, pl := [] }),
 (50, { kd := .slice 80, size := 1, bytes := 24, zero := [.fs 38 []], cmp := .none, pl := [] }),
 (53, { kd := .struct [(0, 22), (1, 23), (2, 3), (3, 50), (4, 24), (5, 3)], size := 6, bytes := 112, zero := [.fs 32 [], .fs 36 [], .it .i64 0, .fs 38 [], .fs 1 [], .it .i64 0], cmp := .none, pl := [(0, 1), (1, 1), (2, 1), (3, 1), (4, 1), (5, 1)] }),
 (62, { kd := .slice 115, size := 1, bytes := 24, zero := [.fs 3 []], cmp := .none, pl := [] }),
 (64, { kd := .func, size := 1, bytes := 8, zero := [.ot .nilFunc], cmp := .none, pl := [] }),
 (68, { kd := .int .u64, size := 1, bytes := 8, zero := [.it .u64 0], cmp := .some [.it .u64 0], pl := [] }),
 (72, { kd := .other, size := 1, bytes := 0, zero := [], cmp := .none, pl := [] }),
 (78, { kd := .slice 36, size := 1, bytes := 24, zero := [.fs 2 []], cmp := .none, pl := [] }),
 (80, { kd := .struct [(0, 3), (1, 38), (37, 78)], size := 38, bytes := 96, zero := [.it .i64 0, .it .i64 0, .it .u8 0, .it .u8 0, .it .u8 0, .it .u8 0, .it .u8 0, .it .u8 0, .it .u8 0, .it .u8 0, .it .u8 0, .it .u8 0, .it .u8 0, .it .u8 0, .it .u8 0, .it .u8 0, .it .u8 0, .it .u8 0, .it .u8 0, .it .u8 0, .it .u8 0, .it .u8 0, .it .u8 0, .it .u8 0, .it .u8 0, .it .u8 0, .it .u8 0, .it .u8 0, .it .u8 0, .it .u8 0, .it .u8 0, .it .u8 0, .it .u8 0, .it .u8 0, .it .i64 0, .it .i64 0, .it .i64 0, .fs 2 []], cmp := .none, pl := [(0, 1), (1, 36), (37, 1)] }),
 (81, { kd := .slice 84, size := 1, bytes := 24, zero := [.fs 2 []], cmp := .none, pl := [] }),
 (84, { kd := .struct [(0, 3), (1, 3)], size := 2, bytes := 16, zero := [.it .i64 0, .it .i64 0], cmp := .some [.it .i64 0, .it .i64 0], pl := [(0, 1), (1, 1)] }),
 (86, { kd := .slice 88, size := 1, bytes := 24, zero := [.fs 2 []], cmp := .none, pl := [] }),
 (88, { kd := .struct [(0, 3), (1, 3)], size := 2, bytes := 16, zero := [.it .i64 0, .it .i64 0], cmp := .some [.it .i64 0, .it .i64 0], pl := [(0, 1), (1, 1)] }),
 (90, { kd := .struct [(0, 4), (1, 3), (2, 9), (3, 3)], size := 4, bytes := 40, zero := [.bl Bool.false, .it .i64 0, .st [], .it .i64 0], cmp := .some [.bl Bool.false, .it .i64 0, .st [], .it .i64 0], pl := [(0, 1), (1, 1), (2, 1), (3, 1)] }),
 (92, { kd := .other, size := 1, bytes := 0, zero := [], cmp := .none, pl := [] }),
 (94, { kd := .arr 4 3, size := 4, bytes := 32, zero := [.it .i64 0, .it .i64 0, .it .i64 0, .it .i64 0], cmp := .some [.it .i64 0, .it .i64 0, .it .i64 0, .it .i64 0], pl := [] }),
 (96, { kd := .struct [(0, 3), (1, 3), (2, 94)], size := 6, bytes := 48, zero := [.it .i64 0, .it .i64 0, .it .i64 0, .it .i64 0, .it .i64 0, .it .i64 0], cmp := .some [.it .i64 0, .it .i64 0, .it .i64 0, .it .i64 0, .it .i64 0, .it .i64 0], pl := [(0, 1), (1, 1), (2, 4)] }),
 (98, { kd := .other, size := 1, bytes := 0, zero := [], cmp := .none, pl := [] }),
 (100, { kd := .map 3 3, size := 1, bytes := 8, zero := [.ot (.map .none)], cmp := .none, pl := [] }),
 (102, { kd := .struct [(0, 100), (1, 3)], size := 2, bytes := 16, zero := [.ot (.map .none), .it .i64 0], cmp := .none, pl := [(0, 1), (1, 1)] }),
 (104, { kd := .struct [(0, 102), (2, 22), (3, 23), (4, 50), (5, 3)], size := 6, bytes := 96, zero := [.ot (.map .none), .it .i64 0, .fs 32 [], .fs 36 [], .fs 38 [], .it .i64 0], cmp := .none, pl := [(0, 2), (2, 1), (3, 1), (4, 1), (5, 1)] }),
 (106, { kd := .func, size := 1, bytes := 8, zero := [.ot .nilFunc], cmp := .none, pl := [] }),
 (107, { kd := .func, size := 1, bytes := 8, zero := [.ot .nilFunc], cmp := .none, pl := [] }),
 (115, { kd := .struct [(0, 9), (1, 4), (2, 9)], size := 3, bytes := 40, zero := [.st [], .bl Bool.false, .st []], cmp := .some [.st [], .bl Bool.false, .st []], pl := [(0, 1), (1, 1), (2, 1)] }),
 (125, { kd := .map 115 3, size := 1, bytes := 8, zero := [.ot (.map .none)], cmp := .none, pl := [] }),
 (129, { kd := .func, size := 1, bytes := 8, zero := [.ot .nilFunc], cmp := .none, pl := [] }),
 (143, { kd := .func, size := 1, bytes := 8, zero := [.ot .nilFunc], cmp := .none, pl := [] }),
 (147, { kd := .func, size := 1, bytes := 8, zero := [.ot .nilFunc], cmp := .none, pl := [] }),
 (148, { kd := .func, size := 1, bytes := 8, zero := [.ot .nilFunc], cmp := .none, pl := [] }),
 (149, { kd := .ptr 193, size := 1, bytes := 8, zero := [.ot (.pointer .none)], cmp := .none, pl := [] }),
 (155, { kd := .arr 16 4, size := 16, bytes := 16, zero := [.bl Bool.false, .bl Bool.false, .bl Bool.false, .bl Bool.false, .bl Bool.false, .bl Bool.false, .bl Bool.false, .bl Bool.false, .bl Bool.false, .bl Bool.false, .bl Bool.false, .bl Bool.false, .bl Bool.false, .bl Bool.false, .bl Bool.false, .bl Bool.false], cmp := .some [.bl Bool.false, .bl Bool.false, .bl Bool.false, .bl Bool.false, .bl Bool.false, .bl Bool.false, .bl Bool.false, .bl Bool.false, .bl Bool.false, .bl Bool.false, .bl Bool.false, .bl Bool.false, .bl Bool.false, .bl Bool.false, .bl Bool.false, .bl Bool.false], pl := [] }),
 (159, { kd := .other, size := 1, bytes := 0, zero := [], cmp := .none, pl := [] }),
 (163, { kd := .other, size := 1, bytes := 0, zero := [], cmp := .none, pl := [] }),
 (166, { kd := .other, size := 1, bytes := 0, zero := [], cmp := .none, pl := [] }),
 (178, { kd := .int .u64, size := 1, bytes := 8, zero := [.it .u64 0], cmp := .some [.it .u64 0], pl := [] }),
 (179, { kd := .slice 5, size := 1, bytes := 24, zero := [.fs 1 []], cmp := .none, pl := [] }),
 (181, { kd := .slice 9, size := 1, bytes := 24, zero := [.fs 1 []], cmp := .none, pl := [] }),
 (184, { kd := .other, size := 1, bytes := 0, zero := [], cmp := .none, pl := [] }),
 (188, { kd := .ptr 102, size := 1, bytes := 8, zero := [.ot (.pointer .none)], cmp := .none, pl := [] }),
 (190, { kd := .arr 16 96, size := 96, bytes := 768, zero := [.it .i64 0, .it .i64 0, .it .i64 0, .it .i64 0, .it .i64 0, .it .i64 0, .it .i64 0, .it .i64 0, .it .i64 0, .it .i64 0, .it .i64 0, .it .i64 0, .it .i64 0, .it .i64 0, .it .i64 0, .it .i64 0, .it .i64 0, .it .i64 0, .it .i64 0, .it .i64 0, .it .i64 0, .it .i64 0, .it .i64 0, .it .i64 0, .it .i64 0, .it .i64 0, .it .i64 0, .it .i64 0, .it .i64 0, .it .i64 0, .it .i64 0, .it .i64 0, .it .i64 0, .it .i64 0, .it .i64 0, .it .i64 0, .it .i64 0, .it .i64 0, .it .i64 0, .it .i64 0, .it .i64 0, .it .i64 0, .it .i64 0, .it .i64 0, .it .i64 0, .it .i64 0, .it .i64 0, .it .i64 0, .it .i64 0, .it .i64 0, .it .i64 0, .it .i64 0, .it .i64 0, .it .i64 0, .it .i64 0, .it .i64 0, .it .i64 0, .it .i64 0, .it .i64 0, .it .i64 0, .it .i64 0, .it .i64 0, .it .i64 0, .it .i64 0, .it .i64 0, .it .i64 0, .it .i64 0, .it .i64 0, .it .i64 0, .it .i64 0, .it .i64 0, .it .i64 0, .it .i64 0, .it .i64 0, .it .i64 0, .it .i64 0, .it .i64 0, .it .i64 0, .it .i64 0, .it .i64 0, .it .i64 0, .it .i64 0, .it .i64 0, .it .i64 0, .it .i64 0, .it .i64 0, .it .i64 0, .it .i64 0, .it .i64 0, .it .i64 0, .it .i64 0, .it .i64 0, .it .i64 0, .it .i64 0, .it .i64 0, .it .i64 0], cmp := .some [.it .i64 0, .it .i64 0, .it .i64 0, .it .i64 0, .it .i64 0, .it .i64 0, .it .i64 0, .it .i64 0, .it .i64 0, .it .i64 0, .it .i64 0, .it .i64 0, .it .i64 0, .it .i64 0, .it .i64 0, .it .i64 0, .it .i64 0, .it .i64 0, .it .i64 0, .it .i64 0, .it .i64 0, .it .i64 0, .it .i64 0, .it .i64 0, .it .i64 0, .it .i64 0, .it .i64 0, .it .i64 0, .it .i64 0, .it .i64 0, .it .i64 0, .it .i64 0, .it .i64 0, .it .i64 0, .it .i64 0, .it .i64 0, .it .i64 0, .it .i64 0, .it .i64 0, .it .i64 0, .it .i64 0, .it .i64 0, .it .i64 0, .it .i64 0, .it .i64 0, .it .i64 0, .it .i64 0, .it .i64 0, .it .i64 0, .it .i64 0, .it .i64 0, .it .i64 0, .it .i64 0, .it .i64 0, .it .i64 0, .it .i64 0, .it .i64 0, .it .i64 0, .it .i64 0, .it .i64 0, .it .i64 0, .it .i64 0, .it .i64 0, .it .i64 0, .it .i64 0, .it .i64 0, .it .i64 0, .it .i64 0, .it .i64 0, .it .i64 0, .it .i64 0, .it .i64 0, .it .i64 0, .it .i64 0, .it .i64 0, .it .i64 0, .it .i64 0, .it .i64 0, .it .i64 0, .it .i64 0, .it .i64 0, .it .i64 0, .it .i64 0, .it .i64 0, .it .i64 0, .it .i64 0, .it .i64 0, .it .i64 0, .it .i64 0, .it .i64 0, .it .i64 0, .it .i64 0, .it .i64 0, .it .i64 0, .it .i64 0, .it .i64 0], pl := [] }),
 (191, { kd := .arr 24 90, size := 96, bytes := 960, zero := [.bl Bool.false, .it .i64 0, .st [], .it .i64 0, .bl Bool.false, .it .i64 0, .st [], .it .i64 0, .bl Bool.false, .it .i64 0, .st [], .it .i64 0, .bl Bool.false, .it .i64 0, .st [], .it .i64 0, .bl Bool.false, .it .i64 0, .st [], .it .i64 0, .bl Bool.false, .it .i64 0, .st [], .it .i64 0, .bl Bool.false, .it .i64 0, .st [], .it .i64 0, .bl Bool.false, .it .i64 0, .st [], .it .i64 0, .bl Bool.false, .it .i64 0, .st [], .it .i64 0, .bl Bool.false, .it .i64 0, .st [], .it .i64 0, .bl Bool.false, .it .i64 0, .st [], .it .i64 0, .bl Bool.false, .it .i64 0, .st [], .it .i64 0, .bl Bool.false, .it .i64 0, .st [], .it .i64 0, .bl Bool.false, .it .i64 0, .st [], .it .i64 0, .bl Bool.false, .it .i64 0, .st [], .it .i64 0, .bl Bool.false, .it .i64 0, .st [], .it .i64 0, .bl Bool.false, .it .i64 0, .st [], .it .i64 0, .bl Bool.false, .it .i64 0, .st [], .it .i64 0, .bl Bool.false, .it .i64 0, .st [], .it .i64 0, .bl Bool.false, .it .i64 0, .st [], .it .i64 0, .bl Bool.false, .it .i64 0, .st [], .it .i64 0, .bl Bool.false, .it .i64 0, .st [], .it .i64 0, .bl Bool.false, .it .i64 0, .st [], .it .i64 0, .bl Bool.false, .it .i64 0, .st [], .it .i64 0], cmp := .some [.bl Bool.false, .it .i64 0, .st [], .it .i64 0, .bl Bool.false, .it .i64 0, .st [], .it .i64 0, .bl Bool.false, .it .i64 0, .st [], .it .i64 0, .bl Bool.false, .it .i64 0, .st [], .it .i64 0, .bl Bool.false, .it .i64 0, .st [], .it .i64 0, .bl Bool.false, .it .i64 0, .st [], .it .i64 0, .bl Bool.false, .it .i64 0, .st [], .it .i64 0, .bl Bool.false, .it .i64 0, .st [], .it .i64 0, .bl Bool.false, .it .i64 0, .st [], .it .i64 0, .bl Bool.false, .it .i64 0, .st [], .it .i64 0, .bl Bool.false, .it .i64 0, .st [], .it .i64 0, .bl Bool.false, .it .i64 0, .st [], .it .i64 0, .bl Bool.false, .it .i64 0, .st [], .it .i64 0, .bl Bool.false, .it .i64 0, .st [], .it .i64 0, .bl Bool.false, .it .i64 0, .st [], .it .i64 0, .bl Bool.false, .it .i64 0, .st [], .it .i64 0, .bl Bool.false, .it .i64 0, .st [], .it .i64 0, .bl Bool.false, .it .i64 0, .st [], .it .i64 0, .bl Bool.false, .it .i64 0, .st [], .it .i64 0, .bl Bool.false, .it .i64 0, .st [], .it .i64 0, .bl Bool.false, .it .i64 0, .st [], .it .i64 0, .bl Bool.false, .it .i64 0, .st [], .it .i64 0, .bl Bool.false, .it .i64 0, .st [], .it .i64 0, .bl Bool.false, .it .i64 0, .st [], .it .i64 0], pl := [] }),
 (193, { kd := .struct [(0, 26), (1, 190), (97, 191), (193, 155)], size := 209, bytes := 1752, zero := [.ot (.pointer .none), .it .i64 0, .it .i64 0, .it .i64 0, .it .i64 0, .it .i64 0, .it .i64 0, .it .i64 0, .it .i64 0, .it .i64 0, .it .i64 0, .it .i64 0, .it .i64 0, .it .i64 0, .it .i64 0, .it .i64 0, .it .i64 0, .it .i64 0, .it .i64 0, .it .i64 0, .it .i64 0, .it .i64 0, .it .i64 0, .it .i64 0, .it .i64 0, .it .i64 0, .it .i64 0, .it .i64 0, .it .i64 0, .it .i64 0, .it .i64 0, .it .i64 0, .it .i64 0, .it .i64 0, .it .i64 0, .it .i64 0, .it .i64 0, .it .i64 0, .it .i64 0, .it .i64 0, .it .i64 0, .it .i64 0, .it .i64 0, .it .i64 0, .it .i64 0, .it .i64 0, .it .i64 0, .it .i64 0, .it .i64 0, .it .i64 0, .it .i64 0, .it .i64 0, .it .i64 0, .it .i64 0, .it .i64 0, .it .i64 0, .it .i64 0, .it .i64 0, .it .i64 0, .it .i64 0, .it .i64 0, .it .i64 0, .it .i64 0, .it .i64 0, .it .i64 0, .it .i64 0, .it .i64 0, .it .i64 0, .it .i64 0, .it .i64 0, .it .i64 0, .it .i64 0, .it .i64 0, .it .i64 0, .it .i64 0, .it .i64 0, .it .i64 0, .it .i64 0, .it .i64 0, .it .i64 0, .it .i64 0, .it .i64 0, .it .i64 0, .it .i64 0, .it .i64 0, .it .i64 0, .it .i64 0, .it .i64 0, .it .i64 0, .it .i64 0, .it .i64 0, .it .i64 0, .it .i64 0, .it .i64 0, .it .i64 0, .it .i64 0, .it .i64 0, .bl Bool.false, .it .i64 0, .st [], .it .i64 0, .bl Bool.false, .it .i64 0, .st [], .it .i64 0, .bl Bool.false, .it .i64 0, .st [], .it .i64 0, .bl Bool.false, .it .i64 0, .st [], .it .i64 0, .bl Bool.false, .it .i64 0, .st [], .it .i64 0, .bl Bool.false, .it .i64 0, .st [], .it .i64 0, .bl Bool.false, .it .i64 0, .st [], .it .i64 0, .bl Bool.false, .it .i64 0, .st [], .it .i64 0, .bl Bool.false, .it .i64 0, .st [], .it .i64 0, .bl Bool.false, .it .i64 0, .st [], .it .i64 0, .bl Bool.false, .it .i64 0, .st [], .it .i64 0, .bl Bool.false, .it .i64 0, .st [], .it .i64 0, .bl Bool.false, .it .i64 0, .st [], .it .i64 0, .bl Bool.false, .it .i64 0, .st [], .it .i64 0, .bl Bool.false, .it .i64 0, .st [], .it .i64 0, .bl Bool.false, .it .i64 0, .st [], .it .i64 0, .bl Bool.false, .it .i64 0, .st [], .it .i64 0, .bl Bool.false, .it .i64 0, .st [], .it .i64 0, .bl Bool.false, .it .i64 0, .st [], .it .i64 0, .bl Bool.false, .it .i64 0, .st [], .it .i64 0, .bl Bool.false, .it .i64 0, .st [], .it .i64 0, .bl Bool.false, .it .i64 0, .st [], .it .i64 0, .bl Bool.false, .it .i64 0, .st [], .it .i64 0, .bl Bool.false, .it .i64 0, .st [], .it .i64 0, .bl Bool.false, .bl Bool.false, .bl Bool.false, .bl Bool.false, .bl Bool.false, .bl Bool.false, .bl Bool.false, .bl Bool.false, .bl Bool.false, .bl Bool.false, .bl Bool.false, .bl Bool.false, .bl Bool.false, .bl Bool.false, .bl Bool.false, .bl Bool.false], cmp := .none, pl := [(0, 1), (1, 96), (97, 96), (193, 16)] }),
 (194, { kd := .func, size := 1, bytes := 8, zero := [.ot .nilFunc], cmp := .none, pl := [] }),
 (195, { kd := .func, size := 1, bytes := 8, zero := [.ot .nilFunc], cmp := .none, pl := [] }),
 (197, { kd := .func, size := 1, bytes := 8, zero := [.ot .nilFunc], cmp := .none, pl := [] }),
 (198, { kd := .func, size := 1, bytes := 8, zero := [.ot .nilFunc], cmp := .none, pl := [] }),
 (201, { kd := .func, size := 1, bytes := 8, zero := [.ot .nilFunc], cmp := .none, pl := [] }),
 (202, { kd := .func, size := 1, bytes := 8, zero := [.ot .nilFunc], cmp := .none, pl := [] }),
 (219, { kd := .ptr 221, size := 1, bytes := 8, zero := [.ot (.pointer .none)], cmp := .none, pl := [] }),
 (221, { kd := .struct [(0, 219), (1, 179)], size := 2, bytes := 32, zero := [.ot (.pointer .none), .fs 1 []], cmp := .none, pl := [(0, 1), (1, 1)] }),
 (223, { kd := .other, size := 1, bytes := 16, zero := [.ot .nilIface], cmp := .none, pl := [] }),
 (224, { kd := .other, size := 1, bytes := 0, zero := [], cmp := .none, pl := [] }),
 (227, { kd := .func, size := 1, bytes := 8, zero := [.ot .nilFunc], cmp := .none, pl := [] }),
 (229, { kd := .func, size := 1, bytes := 8, zero := [.ot .nilFunc], cmp := .none, pl := [] }),
 (230, { kd := .func, size := 1, bytes := 8, zero := [.ot .nilFunc], cmp := .none, pl := [] }),
 (235, { kd := .func, size := 1, bytes := 8, zero := [.ot .nilFunc], cmp := .none, pl := [] }),
 (241, { kd := .ptr 5, size := 1, bytes := 8, zero := [.ot (.pointer .none)], cmp := .none, pl := [] }),
 (243, { kd := .slice 90, size := 1, bytes := 24, zero := [.fs 4 []], cmp := .none, pl := [] }),
 (250, { kd := .int .i64, size := 1, bytes := 8, zero := [.it .i64 0], cmp := .some [.it .i64 0], pl := [] }),
 (251, { kd := .other, size := 1, bytes := 0, zero := [], cmp := .none, pl := [] }),
 (258, { kd := .int .u32, size := 1, bytes := 4, zero := [.it .u32 0], cmp := .some [.it .u32 0], pl := [] }),
 (260, { kd := .usafe, size := 1, bytes := 8, zero := [.ot (.pointer .none)], cmp := .none, pl := [] }),
 (268, { kd := .int .u64, size := 1, bytes := 8, zero := [.it .u64 0], cmp := .some [.it .u64 0], pl := [] }),
 (272, { kd := .ptr 3, size := 1, bytes := 8, zero := [.ot (.pointer .none)], cmp := .none, pl := [] }),
 (278, { kd := .ptr 268, size := 1, bytes := 8, zero := [.ot (.pointer .none)], cmp := .none, pl := [] }),
 (283, { kd := .arr 256 4, size := 256, bytes := 256, zero := [.bl Bool.false, .bl Bool.false, .bl Bool.false, .bl Bool.false, .bl Bool.false, .bl Bool.false, .bl Bool.false, .bl Bool.false, .bl Bool.false, .bl Bool.false, .bl Bool.false, .bl Bool.false, .bl Bool.false, .bl Bool.false, .bl Bool.false, .bl Bool.false, .bl Bool.false, .bl Bool.false, .bl Bool.false, .bl Bool.false, .bl Bool.false, .bl Bool.false, .bl Bool.false, .bl Bool.false, .bl Bool.false, .bl Bool.false, .bl Bool.false, .bl Bool.false, .bl Bool.false, .bl Bool.false, .bl Bool.false, .bl Bool.false, .bl Bool.false, .bl Bool.false, .bl Bool.false, .bl Bool.false, .bl Bool.false, .bl Bool.false, .bl Bool.false, .bl Bool.false, .bl Bool.false, .bl Bool.false, .bl Bool.false, .bl Bool.false, .bl Bool.false, .bl Bool.false, .bl Bool.false, .bl Bool.false, .bl Bool.false, .bl Bool.false, .bl Bool.false, .bl Bool.false, .bl Bool.false, .bl Bool.false, .bl Bool.false, .bl Bool.false, .bl Bool.false, .bl Bool.false, .bl Bool.false, .bl Bool.false, .bl Bool.false, .bl Bool.false, .bl Bool.false, .bl Bool.false, .bl Bool.false, .bl Bool.false, .bl Bool.false, .bl Bool.false, .bl Bool.false, .bl Bool.false, .bl Bool.false, .bl Bool.false, .bl Bool.false, .bl Bool.false, .bl Bool.false, .bl Bool.false, .bl Bool.false, .bl Bool.false, .bl Bool.false, .bl Bool.false, .bl Bool.false, .bl Bool.false, .bl Bool.false, .bl Bool.false, .bl Bool.false, .bl Bool.false, .bl Bool.false, .bl Bool.false, .bl Bool.false, .bl Bool.false, .bl Bool.false, .bl Bool.false, .bl Bool.false, .bl Bool.false, .bl Bool.false, .bl Bool.false, .bl Bool.false, .bl Bool.false, .bl Bool.false, .bl Bool.false, .bl Bool.false, .bl Bool.false, .bl Bool.false, .bl Bool.false, .bl Bool.false, .bl Bool.false, .bl Bool.false, .bl Bool.false, .bl Bool.false, .bl Bool.false, .bl Bool.false, .bl Bool.false, .bl Bool.false, .bl Bool.false, .bl Bool.false, .bl Bool.false, .bl Bool.false, .bl Bool.false, .bl Bool.false, .bl Bool.false, .bl Bool.false, .bl Bool.false, .bl Bool.false, .bl Bool.false, .bl Bool.false, .bl Bool.false, .bl Bool.false, .bl Bool.false, .bl Bool.false, .bl Bool.false, .bl Bool.false, .bl Bool.false, .bl Bool.false, .bl Bool.false, .bl Bool.false, .bl Bool.false, .bl Bool.false, .bl Bool.false, .bl Bool.false, .bl Bool.false, .bl Bool.false, .bl Bool.false, .bl Bool.false, .bl Bool.false, .bl Bool.false, .bl Bool.false, .bl Bool.false, .bl Bool.false, .bl Bool.false, .bl Bool.false, .bl Bool.false, .bl Bool.false, .bl Bool.false, .bl Bool.false, .bl Bool.false, .bl Bool.false, .bl Bool.false, .bl Bool.false, .bl Bool.false, .bl Bool.false, .bl Bool.false, .bl Bool.false, .bl Bool.false, .bl Bool.false, .bl Bool.false, .bl Bool.false, .bl Bool.false, .bl Bool.false, .bl Bool.false, .bl Bool.false, .bl Bool.false, .bl Bool.false, .bl Bool.false, .bl Bool.false, .bl Bool.false, .bl Bool.false, .bl Bool.false, .bl Bool.false, .bl Bool.false, .bl Bool.false, .bl Bool.false, .bl Bool.false, .bl Bool.false, .bl Bool.false, .bl Bool.false, .bl Bool.false, .bl Bool.false, .bl Bool.false, .bl Bool.false, .bl Bool.false, .bl Bool.false, .bl Bool.false, .bl Bool.false, .bl Bool.false, .bl Bool.false, .bl Bool.false, .bl Bool.false, .bl Bool.false, .bl Bool.false, .bl Bool.false, .bl Bool.false, .bl Bool.false, .bl Bool.false, .bl Bool.false, .bl Bool.false, .bl Bool.false, .bl Bool.false, .bl Bool.false, .bl Bool.false, .bl Bool.false, .bl Bool.false, .bl Bool.false, .bl Bool.false, .bl Bool.false, .bl Bool.false, .bl Bool.false, .bl Bool.false, .bl Bool.false, .bl Bool.false, .bl Bool.false, .bl Bool.false, .bl Bool.false, .bl Bool.false, .bl Bool.false, .bl Bool.false, .bl Bool.false, .bl Bool.false, .bl Bool.false, .bl Bool.false, .bl Bool.false, .bl Bool.false, .bl Bool.false, .bl Bool.false, .bl Bool.false, .bl Bool.false, .bl Bool.false, .bl Bool.false, .bl Bool.false, .bl Bool.false, .bl Bool.false, .bl Bool.false, .bl Bool.false, .bl Bool.false, .bl Bool.false, .bl Bool.false, .bl Bool.false, .bl Bool.false, .bl Bool.false, .bl Bool.false, .bl Bool.false, .bl Bool.false, .bl Bool.false, .bl Bool.false, .bl Bool.false, .bl Bool.false, .bl Bool.false], cmp := .some [.bl Bool.false, .bl Bool.false, .bl Bool.false, .bl Bool.false, .bl Bool.false, .bl Bool.false, .bl Bool.false, .bl Bool.false, .bl Bool.false, .bl Bool.false, .bl Bool.false, .bl Bool.false, .bl Bool.false, .bl Bool.false, .bl Bool.false, .bl Bool.false, .bl Bool.false, .bl Bool.false, .bl Bool.false, .bl Bool.false, .bl Bool.false, .bl Bool.false, .bl Bool.false, .bl Bool.false, .bl Bool.false, .bl Bool.false, .bl Bool.false, .bl Bool.false, .bl Bool.false, .bl Bool.false, .bl Bool.false, .bl Bool.false, .bl Bool.false, .bl Bool.false, .bl Bool.false, .bl Bool.false, .bl Bool.false, .bl Bool.false, .bl Bool.false, .bl Bool.false, .bl Bool.false, .bl Bool.false, .bl Bool.false, .bl Bool.false, .bl Bool.false, .bl Bool.false, .bl Bool.false, .bl Bool.false, .bl Bool.false, .bl Bool.false, .bl Bool.false, .bl Bool.false, .bl Bool.false, .bl Bool.false, .bl Bool.false, .bl Bool.false, .bl Bool.false, .bl Bool.false, .bl Bool.false, .bl Bool.false, .bl Bool.false, .bl Bool.false, .bl Bool.false, .bl Bool.false, .bl Bool.false, .bl Bool.false, .bl Bool.false, .bl Bool.false, .bl Bool.false, .bl Bool.false, .bl Bool.false, .bl Bool.false, .bl Bool.false, .bl Bool.false, .bl Bool.false, .bl Bool.false, .bl Bool.false, .bl Bool.false, .bl Bool.false, .bl Bool.false, .bl Bool.false, .bl Bool.false, .bl Bool.false, .bl Bool.false, .bl Bool.false, .bl Bool.false, .bl Bool.false, .bl Bool.false, .bl Bool.false, .bl Bool.false, .bl Bool.false, .bl Bool.false, .bl Bool.false, .bl Bool.false, .bl Bool.false, .bl Bool.false, .bl Bool.false, .bl Bool.false, .bl Bool.false, .bl Bool.false, .bl Bool.false, .bl Bool.false, .bl Bool.false, .bl Bool.false, .bl Bool.false, .bl Bool.false, .bl Bool.false, .bl Bool.false, .bl Bool.false, .bl Bool.false, .bl Bool.false, .bl Bool.false, .bl Bool.false, .bl Bool.false, .bl Bool.false, .bl Bool.false, .bl Bool.false, .bl Bool.false, .bl Bool.false, .bl Bool.false, .bl Bool.false, .bl Bool.false, .bl Bool.false, .bl Bool.false, .bl Bool.false, .bl Bool.false, .bl Bool.false, .bl Bool.false, .bl Bool.false, .bl Bool.false, .bl Bool.false, .bl Bool.false, .bl Bool.false, .bl Bool.false, .bl Bool.false, .bl Bool.false, .bl Bool.false, .bl Bool.false, .bl Bool.false, .bl Bool.false, .bl Bool.false, .bl Bool.false, .bl Bool.false, .bl Bool.false, .bl Bool.false, .bl Bool.false, .bl Bool.false, .bl Bool.false, .bl Bool.false, .bl Bool.false, .bl Bool.false, .bl Bool.false, .bl Bool.false, .bl Bool.false, .bl Bool.false, .bl Bool.false, .bl Bool.false, .bl Bool.false, .bl Bool.false, .bl Bool.false, .bl Bool.false, .bl Bool.false, .bl Bool.false, .bl Bool.false, .bl Bool.false, .bl Bool.false, .bl Bool.false, .bl Bool.false, .bl Bool.false, .bl Bool.false, .bl Bool.false, .bl Bool.false, .bl Bool.false, .bl Bool.false, .bl Bool.false, .bl Bool.false, .bl Bool.false, .bl Bool.false, .bl Bool.false, .bl Bool.false, .bl Bool.false, .bl Bool.false, .bl Bool.false, .bl Bool.false, .bl Bool.false, .bl Bool.false, .bl Bool.false, .bl Bool.false, .bl Bool.false, .bl Bool.false, .bl Bool.false, .bl Bool.false, .bl Bool.false, .bl Bool.false, .bl Bool.false, .bl Bool.false, .bl Bool.false, .bl Bool.false, .bl Bool.false, .bl Bool.false, .bl Bool.false, .bl Bool.false, .bl Bool.false, .bl Bool.false, .bl Bool.false, .bl Bool.false, .bl Bool.false, .bl Bool.false, .bl Bool.false, .bl Bool.false, .bl Bool.false, .bl Bool.false, .bl Bool.false, .bl Bool.false, .bl Bool.false, .bl Bool.false, .bl Bool.false, .bl Bool.false, .bl Bool.false, .bl Bool.false, .bl Bool.false, .bl Bool.false, .bl Bool.false, .bl Bool.false, .bl Bool.false, .bl Bool.false, .bl Bool.false, .bl Bool.false, .bl Bool.false, .bl Bool.false, .bl Bool.false, .bl Bool.false, .bl Bool.false, .bl Bool.false, .bl Bool.false, .bl Bool.false, .bl Bool.false, .bl Bool.false, .bl Bool.false, .bl Bool.false, .bl Bool.false, .bl Bool.false, .bl Bool.false, .bl Bool.false, .bl Bool.false, .bl Bool.false, .bl Bool.false, .bl Bool.false, .bl Bool.false, .bl Bool.false, .bl Bool.false, .bl Bool.false, .bl Bool.false, .bl Bool.false, .bl Bool.false, .bl Bool.false], pl := [] }),
 (284, { kd := .other, size := 1, bytes := 0, zero := [], cmp := .none, pl := [] }),
 (287, { kd := .ptr 283, size := 1, bytes := 8, zero := [.ot (.pointer .none)], cmp := .none, pl := [] }),
 (301, { kd := .struct [(0, 17), (1, 17), (2, 17), (3, 9)], size := 4, bytes := 40, zero := [.ot (.pointer .none), .ot (.pointer .none), .ot (.pointer .none), .st []], cmp := .none, pl := [(0, 1), (1, 1), (2, 1), (3, 1)] }),
 (302, { kd := .arr 0 16, size := 0, bytes := 0, zero := [], cmp := .none, pl := [] }),
 (304, { kd := .struct [(0, 302)], size := 0, bytes := 0, zero := [], cmp := .none, pl := [(0, 0)] }),
 (306, { kd := .int .u8, size := 1, bytes := 1, zero := [.it .u8 0], cmp := .some [.it .u8 0], pl := [] }),
 (307, { kd := .int .u8, size := 1, bytes := 1, zero := [.it .u8 0], cmp := .some [.it .u8 0], pl := [] }),
 (308, { kd := .func, size := 1, bytes := 8, zero := [.ot .nilFunc], cmp := .none, pl := [] }),
 (309, { kd := .int .i32, size := 1, bytes := 4, zero := [.it .i32 0], cmp := .some [.it .i32 0], pl := [] }),
 (310, { kd := .int .i32, size := 1, bytes := 4, zero := [.it .i32 0], cmp := .some [.it .i32 0], pl := [] }),
 (312, { kd := .struct [(0, 12), (1, 12), (2, 258), (3, 306), (4, 5), (5, 5), (6, 307), (7, 308), (8, 241), (9, 309), (10, 310)], size := 11, bytes := 48, zero := [.it .u64 0, .it .u64 0, .it .u32 0, .it .u8 0, .it .u8 0, .it .u8 0, .it .u8 0, .ot .nilFunc, .ot (.pointer .none), .it .i32 0, .it .i32 0], cmp := .none, pl := [(0, 1), (1, 1), (2, 1), (3, 1), (4, 1), (5, 1), (6, 1), (7, 1), (8, 1), (9, 1), (10, 1)] })]
def ti (t : Nat) : Option Ty := Go.Sy.look t tyL
theorem tyL_ok : tyL.map (fun p => tyOf Tryz.prog p.1) = tyL.map (fun p => some p.2) := by kernel_rfl
theorem ti_ok : TiOK Tryz.prog ti := tiOK_of tyL_ok
end Go.Proofs.YthknbpijaoljgaaGreatDoor
namespace Go.Proofs.YthknbpijaoljgaaGreatDoor
open Go.Sy
theorem i2 : FnI Tryz.prog 2 1 [] (bd Tryz.f2) := FnI.mk' Tryz.func2 rfl rfl rfl Tryz.call2
theorem i3 : FnI Tryz.prog 3 129 [.tmp 6] (bd Tryz.f3) := FnI.mk' Tryz.func3 rfl rfl rfl Tryz.call3
theorem i4 : FnI Tryz.prog 4 111 [.tmp 2] (bd Tryz.f4) := FnI.mk' Tryz.func4 rfl rfl rfl Tryz.call4
theorem i5 : FnI Tryz.prog 5 128 [.tmp 4] (bd Tryz.f5) := FnI.mk' Tryz.func5 rfl rfl rfl Tryz.call5
theorem i6 : FnI Tryz.prog 6 60 [.tmp 0] (bd Tryz.f6) := FnI.mk' Tryz.func6 rfl rfl rfl Tryz.call6
theorem i30 : FnI Tryz.prog 30 19 [.tmp 2, .tmp 3] (bd Tryz.f30) := FnI.mk' Tryz.func30 rfl rfl rfl Tryz.call30
theorem i32 : FnI Tryz.prog 32 34 [.tmp 4] (bd Tryz.f32) := FnI.mk' Tryz.func32 rfl rfl rfl Tryz.call32
theorem i34 : FnI Tryz.prog 34 46 [.tmp 8] (bd Tryz.f34) := FnI.mk' Tryz.func34 rfl rfl rfl Tryz.call34
theorem i35 : FnI Tryz.prog 35 14 [.tmp 2, .tmp 3] (bd Tryz.f35) := FnI.mk' Tryz.func35 rfl rfl rfl Tryz.call35
theorem i36 : FnI Tryz.prog 36 20 [.tmp 2] (bd Tryz.f36) := FnI.mk' Tryz.func36 rfl rfl rfl Tryz.call36
theorem i45 : FnI Tryz.prog 45 13 [.tmp 2] (bd Tryz.f45) := FnI.mk' Tryz.func45 rfl rfl rfl Tryz.call45
theorem i47 : FnI Tryz.prog 47 4 [.tmp 2] (bd Tryz.f47) := FnI.mk' Tryz.func47 rfl rfl rfl Tryz.call47
theorem i51 : FnI Tryz.prog 51 8 [.tmp 2] (bd Tryz.f51) := FnI.mk' Tryz.func51 rfl rfl rfl Tryz.call51
theorem i64 : FnI Tryz.prog 64 9 [.tmp 4] (bd Tryz.f64) := FnI.mk' Tryz.func64 rfl rfl rfl Tryz.call64
theorem i66 : FnI Tryz.prog 66 8 [.tmp 2] (bd Tryz.f66) := FnI.mk' Tryz.func66 rfl rfl rfl Tryz.call66
theorem i71 : FnI Tryz.prog 71 14 [.tmp 2, .tmp 3] (bd Tryz.f71) := FnI.mk' Tryz.func71 rfl rfl rfl Tryz.call71
theorem i75 : FnI Tryz.prog 75 22 [.tmp 2] (bd Tryz.f75) := FnI.mk' Tryz.func75 rfl rfl rfl Tryz.call75
theorem i76 : FnI Tryz.prog 76 21 [.tmp 4] (bd Tryz.f76) := FnI.mk' Tryz.func76 rfl rfl rfl Tryz.call76
theorem i77 : FnI Tryz.prog 77 15 [.tmp 4] (bd Tryz.f77) := FnI.mk' Tryz.func77 rfl rfl rfl Tryz.call77
theorem i79 : FnI Tryz.prog 79 5 [.tmp 2] (bd Tryz.f79) := FnI.mk' Tryz.func79 rfl rfl rfl Tryz.call79
theorem i81 : FnI Tryz.prog 81 4 [.tmp 2] (bd Tryz.f81) := FnI.mk' Tryz.func81 rfl rfl rfl Tryz.call81
theorem i82 : FnI Tryz.prog 82 19 [.tmp 4] (bd Tryz.f82) := FnI.mk' Tryz.func82 rfl rfl rfl Tryz.call82
theorem i96 : FnI Tryz.prog 96 18 [] (bd Tryz.f96) := FnI.mk' Tryz.func96 rfl rfl rfl Tryz.call96
theorem i116 : FnI Tryz.prog 116 13 [.tmp 4] (bd Tryz.f116) := FnI.mk' Tryz.func116 rfl rfl rfl Tryz.call116
theorem i118 : FnI Tryz.prog 118 41 [] (bd Tryz.f118) := FnI.mk' Tryz.func118 rfl rfl rfl Tryz.call118
theorem i121 : FnI Tryz.prog 121 4 [.tmp 2] (bd Tryz.f121) := FnI.mk' Tryz.func121 rfl rfl rfl Tryz.call121
theorem i126 : FnI Tryz.prog 126 4 [.tmp 2] (bd Tryz.f126) := FnI.mk' Tryz.func126 rfl rfl rfl Tryz.call126
theorem i149 : FnI Tryz.prog 149 25 [.tmp 6] (bd Tryz.f149) := FnI.mk' Tryz.func149 rfl rfl rfl Tryz.call149
theorem i150 : FnI Tryz.prog 150 17 [.tmp 4] (bd Tryz.f150) := FnI.mk' Tryz.func150 rfl rfl rfl Tryz.call150
theorem i151 : FnI Tryz.prog 151 10 [.tmp 4] (bd Tryz.f151) := FnI.mk' Tryz.func151 rfl rfl rfl Tryz.call151
theorem i152 : FnI Tryz.prog 152 9 [.tmp 4] (bd Tryz.f152) := FnI.mk' Tryz.func152 rfl rfl rfl Tryz.call152
theorem i153 : FnI Tryz.prog 153 21 [] (bd Tryz.f153) := FnI.mk' Tryz.func153 rfl rfl rfl Tryz.call153
theorem i154 : FnI Tryz.prog 154 8 [.tmp 2] (bd Tryz.f154) := FnI.mk' Tryz.func154 rfl rfl rfl Tryz.call154
theorem i156 : FnI Tryz.prog 156 9 [.tmp 2] (bd Tryz.f156) := FnI.mk' Tryz.func156 rfl rfl rfl Tryz.call156
theorem i157 : FnI Tryz.prog 157 9 [.tmp 4] (bd Tryz.f157) := FnI.mk' Tryz.func157 rfl rfl rfl Tryz.call157
theorem i158 : FnI Tryz.prog 158 5 [.tmp 2] (bd Tryz.f158) := FnI.mk' Tryz.func158 rfl rfl rfl Tryz.call158
theorem i159 : FnI Tryz.prog 159 11 [] (bd Tryz.f159) := FnI.mk' Tryz.func159 rfl rfl rfl Tryz.call159
theorem i160 : FnI Tryz.prog 160 61 [.tmp 2] (bd Tryz.f160) := FnI.mk' Tryz.func160 rfl rfl rfl Tryz.call160
theorem i165 : FnI Tryz.prog 165 19 [] (bd Tryz.f165) := FnI.mk' Tryz.func165 rfl rfl rfl Tryz.call165
theorem i166 : FnI Tryz.prog 166 9 [.cell 2 34, .tmp 3] (bd Tryz.f166) := FnI.mk' Tryz.func166 rfl rfl rfl Tryz.call166
theorem i176 : FnI Tryz.prog 176 9 [.tmp 4] (bd Tryz.f176) := FnI.mk' Tryz.func176 rfl rfl rfl Tryz.call176
theorem i177 : FnI Tryz.prog 177 13 [.tmp 4] (bd Tryz.f177) := FnI.mk' Tryz.func177 rfl rfl rfl Tryz.call177
theorem i178 : FnI Tryz.prog 178 19 [.tmp 4] (bd Tryz.f178) := FnI.mk' Tryz.func178 rfl rfl rfl Tryz.call178
theorem i179 : FnI Tryz.prog 179 134 [] (bd Tryz.f179) := FnI.mk' Tryz.func179 rfl rfl rfl Tryz.call179
theorem i181 : FnI Tryz.prog 181 8 [.tmp 2] (bd Tryz.f181) := FnI.mk' Tryz.func181 rfl rfl rfl Tryz.call181
theorem i184 : FnI Tryz.prog 184 19 [.cell 6 34, .tmp 7] (bd Tryz.f184) := FnI.mk' Tryz.func184 rfl rfl rfl Tryz.call184
theorem i198 : FnI Tryz.prog 198 19 [.tmp 4] (bd Tryz.f198) := FnI.mk' Tryz.func198 rfl rfl rfl Tryz.call198
theorem i199 : FnI Tryz.prog 199 49 [] (bd Tryz.f199) := FnI.mk' Tryz.func199 rfl rfl rfl Tryz.call199
theorem i208 : FnI Tryz.prog 208 12 [.tmp 4] (bd Tryz.f208) := FnI.mk' Tryz.func208 rfl rfl rfl Tryz.call208
theorem i227 : FnI Tryz.prog 227 16 [.tmp 4] (bd Tryz.f227) := FnI.mk' Tryz.func227 rfl rfl rfl Tryz.call227
theorem i228 : FnI Tryz.prog 228 22 [.tmp 4] (bd Tryz.f228) := FnI.mk' Tryz.func228 rfl rfl rfl Tryz.call228
theorem i231 : FnI Tryz.prog 231 10 [.tmp 4] (bd Tryz.f231) := FnI.mk' Tryz.func231 rfl rfl rfl Tryz.call231
end Go.Proofs.YthknbpijaoljgaaGreatDoor
namespace Go.Proofs.YthknbpijaoljgaaGreatDoor
open Go.Sy
def signB (c : UInt8) : Bool := decide (97 ≤ c.toNat ∧ c.toNat ≤ 122 ∨ 48 ≤ c.toNat ∧ c.toNat ≤ 57 ∨ c.toNat = 46 ∨ c.toNat = 95)
def nameB (s : List UInt8) : Bool := decide (1 ≤ s.length ∧ s.length ≤ 8 ∧ s ≠ [46] ∧ s ≠ [46, 46]) && s.all signB
def wordsC (c : UInt8) : List UInt8 → List (List UInt8)
 | [] => [[]]
 | b :: t => if b = c then [] :: wordsC c t else match wordsC c t with
  | [] => [[b]]
  | w :: r => (b :: w) :: r
def splitP (p : List UInt8) : List (List UInt8) × Int :=
 if p = [47] then ([], 0) else
 match p with
 | [] => ([], 9)
 | b :: r => if b = 47 then (if (wordsC 47 r).length ≤ 4 ∧ (wordsC 47 r).all nameB = true then (wordsC 47 r, 0) else ([], 9)) else ([], 9)
structure Nod where
 p : List UInt8
 d : Bool
 x : List UInt8
deriving DecidableEq
structure Chg where
 k : Int
 a : Nod
 b : Nod
deriving DecidableEq
def key (p : List UInt8) : List (List UInt8) := (splitP p).1
def cmpS (a b : List UInt8) : Int := if Op.bytesLess a b = true then -1 else if Op.bytesLess b a = true then 1 else 0
def cmpN : List (List UInt8) → List (List UInt8) → Int
 | [], [] => 0
 | [], _ :: _ => -1
 | _ :: _, [] => 1
 | x :: a, y :: b => if cmpS x y = 0 then cmpN a b else cmpS x y
def lt (x y : Nod) : Prop := cmpN (key x.p) (key y.p) < 0
def atP (l : List Nod) (p : List UInt8) : Option Nod := l.find? (fun x => x.p == p)
def allD (a b : List Nod) : List Nod := a ++ b.filter (fun y => (atP a y.p).isNone)
end Go.Proofs.YthknbpijaoljgaaGreatDoor
namespace Go.Proofs.YthknbpijaoljgaaGreatDoor
open Go.Sy
theorem mixed : Tryz.prog.follows .mixedOrders = true := by kernel_rfl
theorem gA {p q : Prop} (k : q) (h : q → p := by intro k; with_reducible first | exact Spl.tt k | exact Spl.ff k) : p := h k
theorem gB {p q : Prop} (k : q) (h : q → p := by intro k; with_reducible first | exact draw_auto ti_ok mixed (by decide +kernel) k | exact g_i64 k | exact g_u64 k | exact g_u8 k | exact g_iq k | exact g_uq k | exact g_rem k | exact LetN.mk k | exact g_hm k | exact g_hb k | exact g_lit k) : p := h k
theorem gZ {p : Prop} {α : Type} {A B C : α → Prop} (k : ∀ x, A x → B x → C x) (h : (∀ x, A x → B x → C x) → p := by intro k; with_reducible first | exact g_nm8 k | exact g_n8 k | exact g_b8 k) : p := h k
theorem gY {p : Prop} {α : Type} {A B : α → Prop} (k : ∀ x, A x → B x) (h : (∀ x, A x → B x) → p := by intro k; with_reducible first | exact g_nm k | exact g_im k | exact g_n k | exact g_b k) : p := h k
theorem gE {p q : Prop} (k : q) (h : q → p := by intro k; with_reducible first | exact g_and k | exact g_c k | exact NilS.ts k | exact LetE.now k | exact AtD.now k | exact LetC.now k | exact g_some k | exact g_yk k | exact g_nk k | exact g_y k | exact g_f k | exact AtA.mk' k) : p := h k
theorem gS {p a b A B : Prop} (k : a → A) (l : b → B) (h : (a → A) → (b → B) → p := by intro k l; with_reducible first | exact Spl.pd k l | exact Spl.peq k l | exact Spl.pne k l | exact Spl.seq k l | exact Spl.sne k l) : p := h k l
theorem signB_t {c : UInt8} (h : 97 ≤ c.toNat ∧ c.toNat ≤ 122 ∨ 48 ≤ c.toNat ∧ c.toNat ≤ 57 ∨ c.toNat = 46 ∨ c.toNat = 95) : signB c = true := decide_eq_true h
theorem signB_f {c : UInt8} (h : ¬ (97 ≤ c.toNat ∧ c.toNat ≤ 122 ∨ 48 ≤ c.toNat ∧ c.toNat ≤ 57 ∨ c.toNat = 46 ∨ c.toNat = 95)) : signB c = false := decide_eq_false h
theorem all_snocB {f : UInt8 → Bool} {l : List UInt8} {k : Nat} {c : UInt8} (h : l[k]? = some c) : (l.take (k + 1)).all f = ((l.take k).all f && f c) := by
 rw [take_snoc h, List.all_append]; simp
theorem not_allB {f : UInt8 → Bool} {l : List UInt8} {k : Nat} {c : UInt8} (h : l[k]? = some c) (hc : f c = false) : l.all f = false := by
 rw [List.all_eq_false]
 exact ⟨c, List.mem_of_getElem? h, by simp [hc]⟩
theorem nameB_no {s : List UInt8} (h : ¬ (1 ≤ s.length ∧ s.length ≤ 8 ∧ s ≠ [46] ∧ s ≠ [46, 46])) : nameB s = false := by rw [nameB, decide_eq_false h]; rfl
theorem nameB_yes {s : List UInt8} (h1 : 1 ≤ s.length) (h2 : s.length ≤ 8) (h3 : ¬ s = [46]) (h4 : ¬ s = [46, 46]) : nameB s = s.all signB := by rw [nameB, decide_eq_true ⟨h1, h2, h3, h4⟩]; rfl
theorem refName_ok (s : List UInt8) : FnC Tryz.prog 183 [.d (.st s)] (.d (.bl (nameB s))) := by
  refine FnC.intro ti_ok Tryz.func183 rfl Tryz.ntmps183 Tryz.call183 rfl (Nat.le_of_ble_eq_true rfl) rfl ?_
  (repeat' ((conv=>whnf);first|with_reducible refine gA ?_|(with_reducible first|refine gB ?_|refine gZ (fun x hx hu=>?_)|refine gY (fun x hx=>?_)|refine gE ?_|refine Both.mk ?_ ?_|refine gS (fun h=>?_) (fun h=>?_)|refine Spl.nt ?_|refine Spl.mk (fun h=>?_) (fun h=>?_))))
  all_goals first
  | exact bl_eq (nameB_no (by omega)).symm
  | exact bl_eq (nameB_no (fun hh => hh.2.2.1 (by assumption))).symm
  | exact bl_eq (nameB_no (fun hh => hh.2.2.2 (by assumption))).symm
  | skip
  rename_i h1 h2 h3
  rw [nameB_yes (by omega) (by omega) h3 h]
  refine loop_rule ti_ok (fun k : Nat => k ≤ s.length ∧ (s.take k).all signB = true) (fun k => ⟨[(0, .d (.st s)), (3, .d (.it .i64 k))], [], 0⟩) (fun k => s.length - k) 0 ⟨Nat.zero_le _, rfl⟩ ⟨⟨rfl, rfl, trivial⟩, trivial, rfl⟩ ?_
  intro k ⟨hk, ha⟩
  (repeat' ((conv=>whnf);first|with_reducible refine gA ?_|(with_reducible first|refine gB ?_|refine gZ (fun x hx hu=>?_)|refine gY (fun x hx=>?_)|refine gE ?_|refine Both.mk ?_ ?_|refine gS (fun h=>?_) (fun h=>?_)|refine Spl.nt ?_|refine Spl.mk (fun h=>?_) (fun h=>?_))))
  all_goals first
  | exact bl_eq (not_allB hx (signB_f (by omega))).symm
  | (refine again (k + 1) ⟨by omega, by rw [all_snocB hx, ha, signB_t (by omega)]; rfl⟩ (by dsimp only; omega) (And.intro rfl (And.intro rfl trivial)) trivial rfl)
  | (obtain rfl : k = s.length := by omega
     rw [List.take_length] at ha
     exact bl_eq ha.symm)
def signs : List UInt8 := [97, 98, 99, 100, 101, 102, 103, 104, 105, 106, 107, 108, 109, 110, 111, 112, 113, 114, 115, 116, 117, 118, 119, 120, 121, 122, 48, 49, 50, 51, 52, 53, 54, 55, 56, 57, 46, 95]
def tabS (l : List UInt8) : List D := (List.range 256).map fun j => .bl (l.any fun c => c.toNat == j)
theorem all_d (l : List D) (m : Nat) : (l.map AV.d).all (AV.lt1 m) = true := by
 rw [List.all_eq_true]
 intro x hx
 obtain ⟨b, _, rfl⟩ := List.mem_map.1 hx
 rfl
theorem tabS_upd {l : List UInt8} {c : UInt8} : ((tabS l).map AV.d).take c.toNat ++ [AV.d (.bl true)] ++ ((tabS l).map AV.d).drop (c.toNat + 1) = (tabS (l ++ [c])).map AV.d := by
 have hc := c.toNat_lt
 apply List.ext_getElem
 ·simp [tabS]; omega
 ·intro i h1 h2
  simp only [tabS, List.length_map, List.length_range] at h2
  rcases Nat.lt_trichotomy i c.toNat with h | h | h
  ·rw [List.getElem_append_left (by simp [tabS]; omega), List.getElem_append_left (by simp [tabS]; omega)]
   simp [tabS, show ¬ c.toNat = i by omega]
  ·subst h
   rw [List.getElem_append_left (by simp [tabS]; omega), List.getElem_append_right (by simp [tabS]; omega)]
   simp [tabS]
  ·rw [List.getElem_append_right (by simp [tabS]; omega)]
   simp [tabS, show ¬ c.toNat = i by omega, show c.toNat + 1 + (i - (min c.toNat 256 + 1)) = i by omega]
theorem makeSet_ok : FnC Tryz.prog 226 [.d (.st signs)] (.tup [.dg 256 (tabS signs), .d (.bl true)]) := by
 refine FnC.intro ti_ok Tryz.func226 rfl Tryz.ntmps226 Tryz.call226 rfl (Nat.le_of_ble_eq_true rfl) rfl ?_
 (repeat' ((conv=>whnf);first|with_reducible refine gA ?_|(with_reducible first|refine gB ?_|refine gZ (fun x hx hu=>?_)|refine gY (fun x hx=>?_)|refine gE ?_|refine Both.mk ?_ ?_|refine gS (fun h=>?_) (fun h=>?_)|refine Spl.nt ?_|refine Spl.mk (fun h=>?_) (fun h=>?_))))
 refine loop_rule ti_ok (fun k : Nat => k ≤ signs.length) (fun k => ⟨[(0, .d (.st signs)), (2, .ptr 0 0), (4, .d (.it .i64 k))], [(0, .cells 256 ((tabS (signs.take k)).map .d))], 1⟩) (fun k => signs.length - k) 0 (Nat.zero_le _) ⟨⟨rfl, rfl, rfl, trivial⟩, ⟨?_, trivial⟩, ?_⟩ ?_
 ·refine cells_eq rfl (by kernel_rfl)
 ·simp only [S.ok, List.all_cons, List.all_nil, Ob.lt, all_d]; rfl
 have hlow : ∀ c ∈ signs, c.toNat < 128 := by decide
 have hl38 : signs.length = 38 := rfl
 intro k hk
 (repeat' ((conv=>whnf);first|with_reducible refine gA ?_|(with_reducible first|refine gB ?_|refine gZ (fun x hx hu=>?_)|refine gY (fun x hx=>?_)|refine gE ?_|refine Both.mk ?_ ?_|refine gS (fun h=>?_) (fun h=>?_)|refine Spl.nt ?_|refine Spl.mk (fun h=>?_) (fun h=>?_))))
 ·have := hlow x (List.mem_of_getElem? hx); omega
 ·refine again (k + 1) (by omega) (by dsimp only; omega) (And.intro rfl (And.intro rfl (And.intro rfl trivial))) (And.intro (cells_eq rfl ?_) trivial) ?_
  ·rw [take_snoc hx, ← tabS_upd]
   simp only [Nat.zero_add, Int.toNat_natCast, Nat.mul_one]; rfl
  ·simp only [S.ok, List.all_cons, List.all_nil, Ob.lt, all_d]; rfl
 ·obtain rfl : k = signs.length := by omega
  (repeat' ((conv=>whnf);first|with_reducible refine gA ?_|with_reducible refine AtA.mk' ?_|(with_reducible first|refine gB ?_|refine gZ (fun x hx hu=>?_)|refine gY (fun x hx=>?_)|refine gE ?_|refine Both.mk ?_ ?_|refine gS (fun h=>?_) (fun h=>?_)|refine Spl.nt ?_|refine Spl.mk (fun h=>?_) (fun h=>?_))))
  rfl
end Go.Proofs.YthknbpijaoljgaaGreatDoor
namespace Go.Proofs.YthknbpijaoljgaaGreatDoor
open Go.Sy
def trimR (s : List UInt8) : List UInt8 := (s.reverse.dropWhile signB).reverse
def trimS (s : List UInt8) : List UInt8 := (trimR s).dropWhile signB
theorem tab_get (c : UInt8) : ((tabS signs).map AV.d).getD c.toNat .junk = .d (.bl (signB c)) := by
 have : ∀ n, n < 256 → (signs.any fun c => c.toNat == n) = decide (97 ≤ n ∧ n ≤ 122 ∨ 48 ≤ n ∧ n ≤ 57 ∨ n = 46 ∨ n = 95) := by decide +kernel
 have hc := c.toNat_lt
 rw [List.getD, List.getElem?_eq_getElem (by simp [tabS]; omega)]
 simp only [tabS, List.getElem_map, List.getElem_range, Option.getD_some, signB]
 rw [this _ (by omega)]
theorem tab_ld {tab : List D} (ht : tab = tabS signs) (off : Nat) (c : UInt8) (h : off = c.toNat) : ldA ⟨.bool, 1, 1, [.bl false], some [.bl false], []⟩ off (List.map AV.d tab) = .d (.bl (signB c)) := by
 subst h ht
 have := tab_get c
 simpa [ldA, Kd.agg] using this
theorem trimR_0 {s t : List UInt8} (h : s = [] ++ t) (ht : t.all signB = true) : trimR s = [] := by
 subst h
 have key : ∀ l : List UInt8, l.all signB = true → l.dropWhile signB = [] := by
  intro l
  induction l with
  | nil => intro _; rfl
  | cons a l ih =>
   intro h
   rw [List.all_cons, Bool.and_eq_true] at h
   rw [List.dropWhile_cons_of_pos h.1, ih h.2]
 rw [trimR, List.reverse_eq_nil_iff]
 exact key _ (by rw [List.all_reverse]; simpa using ht)
theorem trimR_1 {s r t : List UInt8} {c : UInt8} (h : s = (r ++ [c]) ++ t) (ht : t.all signB = true) (hc : signB c = false) : trimR s = r ++ [c] := by
 subst h
 have e : ((r ++ [c]) ++ t).reverse = t.reverse ++ c :: r.reverse := by simp
 rw [trimR, e, List.dropWhile_append_of_pos (fun x hx => List.all_eq_true.1 ht x (List.mem_reverse.1 hx)), List.dropWhile_cons_of_neg (by simp [hc])]
 simp
theorem last_split {r : List UInt8} {x : UInt8} (h : r[r.length - 1]? = some x) : r = r.take (r.length - 1) ++ [x] := by
 have hl : r.length - 1 < r.length := by
  obtain ⟨hk, _⟩ := List.getElem?_eq_some_iff.1 h
  exact hk
 rw [← take_snoc h, show r.length - 1 + 1 = r.length by omega, List.take_length]
theorem cons_drop {u : List UInt8} {x : UInt8} (h : u[(0 : Int).toNat]? = some x) : u = [x] ++ u.drop 1 := by
 cases u with
 | nil => cases h
 | cons a u => obtain rfl : a = x := Option.some.inj h; rfl
theorem dropW_1 {r t u : List UInt8} {x : UInt8} (h : r = t ++ u) (ht : t.all signB = true) (hx : u[(0 : Int).toNat]? = some x) (hc : signB x = false) : r.dropWhile signB = u := by
 rw [h, List.dropWhile_append_of_pos (fun x hx => List.all_eq_true.1 ht x hx), cons_drop hx]
 exact List.dropWhile_cons_of_neg (by simp [hc])
theorem dropW_0 {r t u : List UInt8} (h : r = t ++ u) (ht : t.all signB = true) (hu : u.length = 0) : r.dropWhile signB = u := by
 obtain rfl := List.length_eq_zero_iff.1 hu
 rw [h, List.dropWhile_append_of_pos (fun x hx => List.all_eq_true.1 ht x hx)]; rfl
theorem trim_ok (s : List UInt8) (h0 : s ≠ []) (hs : s.length ≤ 1000000) : FnC Tryz.prog 221 [.d (.st s), .d (.st signs)] (.d (.st (trimS s))) := by
 refine FnC.intro ti_ok Tryz.func221 rfl Tryz.ntmps221 Tryz.call221 rfl (Nat.le_of_ble_eq_true rfl) rfl ?_
 obtain ⟨tab, ht⟩ : ∃ t, t = tabS signs := ⟨_, rfl⟩
 have hm := makeSet_ok
 rw [← ht] at hm
 (repeat' ((conv=>whnf);first|with_reducible refine gA ?_|with_reducible refine CallE.con ⟨_, hm, ?_⟩ | with_reducible refine CallI.inl ti_ok i228 rfl ?_|(with_reducible first|refine gB ?_|refine gZ (fun x hx hu=>?_)|refine gY (fun x hx=>?_)|refine gE ?_|refine Both.mk ?_ ?_|refine gS (fun h=>?_) (fun h=>?_)|refine Spl.nt ?_|refine Spl.mk (fun h=>?_) (fun h=>?_))))
 refine loop_mem ti_ok (fun r : List UInt8 => ∃ t, s = r ++ t ∧ t.all signB = true) (fun r => [(0, .d (.st r)), (1, .ptr 0 0)]) (fun _ => [(0, .cells 256 (tab.map .d))]) [0] (fun r => r.length) s ⟨[], by simp, rfl⟩ ⟨rfl, rfl, trivial⟩ ⟨cells_eq rfl (by rw [show List.drop (0 + 256) _ = [] from rfl, List.append_nil]; rfl), entL_nub _ _⟩ rfl (by simp only [List.all_cons, List.all_nil, Ob.lt, all_d]; rfl) ?_
 intro r ⟨t, hr, ha⟩
 have hrl : r.length + t.length = s.length := by rw [hr, List.length_append]
 (repeat' ((conv=>whnf);first|with_reducible refine gA ?_|with_reducible refine CallI.inl ti_ok i231 rfl ?_ | with_reducible refine AtA.eq (by with_unfolding_all exact tab_ld ht _ x (by first | omega | (dsimp only; omega) | simp)) ?_|(with_reducible first|refine gB ?_|refine gZ (fun x hx hu=>?_)|refine gY (fun x hx=>?_)|refine gE ?_|refine Both.mk ?_ ?_|refine gS (fun h=>?_) (fun h=>?_)|refine Spl.nt ?_|refine Spl.mk (fun h=>?_) (fun h=>?_))))
 ·rename_i hx0
  have hx' : r[r.length - 1]? = some x := by rw [show r.length - 1 = ((r.length : Int) - 1).toNat by omega]; exact hx
  have hsp := last_split hx'
  refine againM (r.take (r.length - 1)) ⟨[x] ++ t, by rw [← List.append_assoc, ← hsp]; exact hr, by rw [List.all_append, ha, Bool.and_true]; simpa using h⟩ (by dsimp only; rw [List.length_take]; omega) (And.intro (st_eq ?_) (And.intro rfl trivial)) (And.intro rfl ?_) rfl (by simp only [List.all_cons, List.all_nil, Ob.lt, all_d]; rfl)
  ·rw [show ((r.length : Int) - 1).toNat = r.length - 1 by omega]
  ·(repeat (first | exact trivial | refine And.intro rfl ?_))
 ·have hx' : r[r.length - 1]? = some x := by rw [show r.length - 1 = ((r.length : Int) - 1).toNat by omega]; exact hx
  have hsp := last_split hx'
  have h2 := hr
  rw [hsp] at h2
  have hw : trimS s = r.dropWhile signB := by rw [trimS, trimR_1 h2 ha (by simpa using h), ← hsp]
  (repeat' ((conv=>whnf);first|with_reducible refine gA ?_|with_reducible refine CallI.inl ti_ok i227 rfl ?_|(with_reducible first|refine gB ?_|refine gZ (fun x hx hu=>?_)|refine gY (fun x hx=>?_)|refine gE ?_|refine Both.mk ?_ ?_|refine gS (fun h=>?_) (fun h=>?_)|refine Spl.nt ?_|refine Spl.mk (fun h=>?_) (fun h=>?_))))
  refine loop_mem ti_ok (fun u : List UInt8 => ∃ t, r = t ++ u ∧ t.all signB = true) (fun u => [(0, .d (.st u)), (1, .ptr 0 0)]) (fun _ => [(0, .cells 256 (tab.map .d))]) [0] (fun u => u.length) r ⟨[], rfl, rfl⟩ ⟨rfl, rfl, trivial⟩ ⟨rfl, entL_nub _ _⟩ rfl (by simp only [List.all_cons, List.all_nil, Ob.lt, all_d]; rfl) ?_
  intro u ⟨t', hu', ha'⟩
  (repeat' ((conv=>whnf);first|with_reducible refine gA ?_|with_reducible refine CallI.inl ti_ok i231 rfl ?_ | with_reducible refine AtA.eq (by with_unfolding_all exact tab_ld ht _ x (by first | omega | (dsimp only; omega) | simp)) ?_|(with_reducible first|refine gB ?_|refine gZ (fun x hx hu=>?_)|refine gY (fun x hx=>?_)|refine gE ?_|refine Both.mk ?_ ?_|refine gS (fun h=>?_) (fun h=>?_)|refine Spl.nt ?_|refine Spl.mk (fun h=>?_) (fun h=>?_))))
  ·refine againM (u.drop 1) ⟨t' ++ [x], ?_, ?_⟩ (by dsimp only; rw [List.length_drop]; omega) (And.intro (st_eq ?_) (And.intro rfl trivial)) (And.intro rfl ?_) rfl (by simp only [List.all_cons, List.all_nil, Ob.lt, all_d]; rfl)
   ·rw [List.append_assoc, hu']; congr 1; exact cons_drop hx
   ·rw [List.all_append, ha', Bool.true_and]; simpa using h
   ·simp
   ·(repeat (first | exact trivial | refine And.intro rfl ?_))
  ·exact st_eq (hw.trans (dropW_1 hu' ha' hx (by simpa using h))).symm
  ·exact st_eq (hw.trans (dropW_0 hu' ha' (by omega))).symm
 ·have hw : trimS s = r.dropWhile signB := by
   have hr0 : r = [] := List.length_eq_zero_iff.1 (by omega)
   rw [hr0] at hr
   rw [trimS, trimR_0 hr ha, hr0]
  (repeat' ((conv=>whnf);first|with_reducible refine gA ?_|with_reducible refine CallI.inl ti_ok i227 rfl ?_|(with_reducible first|refine gB ?_|refine gZ (fun x hx hu=>?_)|refine gY (fun x hx=>?_)|refine gE ?_|refine Both.mk ?_ ?_|refine gS (fun h=>?_) (fun h=>?_)|refine Spl.nt ?_|refine Spl.mk (fun h=>?_) (fun h=>?_))))
  refine loop_mem ti_ok (fun u : List UInt8 => ∃ t, r = t ++ u ∧ t.all signB = true) (fun u => [(0, .d (.st u)), (1, .ptr 0 0)]) (fun _ => [(0, .cells 256 (tab.map .d))]) [0] (fun u => u.length) r ⟨[], rfl, rfl⟩ ⟨rfl, rfl, trivial⟩ ⟨rfl, entL_nub _ _⟩ rfl (by simp only [List.all_cons, List.all_nil, Ob.lt, all_d]; rfl) ?_
  intro u ⟨t', hu', ha'⟩
  (repeat' ((conv=>whnf);first|with_reducible refine gA ?_|with_reducible refine CallI.inl ti_ok i231 rfl ?_ | with_reducible refine AtA.eq (by with_unfolding_all exact tab_ld ht _ x (by first | omega | (dsimp only; omega) | simp)) ?_|(with_reducible first|refine gB ?_|refine gZ (fun x hx hu=>?_)|refine gY (fun x hx=>?_)|refine gE ?_|refine Both.mk ?_ ?_|refine gS (fun h=>?_) (fun h=>?_)|refine Spl.nt ?_|refine Spl.mk (fun h=>?_) (fun h=>?_))))
  ·refine againM (u.drop 1) ⟨t' ++ [x], ?_, ?_⟩ (by dsimp only; rw [List.length_drop]; omega) (And.intro (st_eq ?_) (And.intro rfl trivial)) (And.intro rfl ?_) rfl (by simp only [List.all_cons, List.all_nil, Ob.lt, all_d]; rfl)
   ·rw [List.append_assoc, hu']; congr 1; exact cons_drop hx
   ·rw [List.all_append, ha', Bool.true_and]; simpa using h
   ·simp
   ·(repeat (first | exact trivial | refine And.intro rfl ?_))
  ·exact st_eq (hw.trans (dropW_1 hu' ha' hx (by simpa using h))).symm
  ·exact st_eq (hw.trans (dropW_0 hu' ha' (by omega))).symm
end Go.Proofs.YthknbpijaoljgaaGreatDoor
namespace Go.Proofs
open Go.Shelf
def Tryz.lays189_ren : Go.Shelf.Ren := ⟨fun | 189 => 159 | 125 => 172 | 257 => 179 | 128 => 194 | 129 => 195 | 294 => 199 | 295 => 200 | 296 => 201 | 297 => 202 | 298 => 203 | 299 => 204 | 216 => 205 | 300 => 206 | 301 => 207 | 328 => 217 | 329 => 211 | 330 => 212 | 331 => 218 | 332 => 219 | 215 => 220 | 343 => 223 | n => n, fun | 28 => 24 | 3 => 3 | 46 => 178 | 0 => 0 | 51 => 258 | 53 => 68 | 4 => 4 | 183 => 251 | 182 => 250 | 131 => 184 | 5 => 5 | 9 => 9 | 218 => 268 | 222 => 272 | 228 => 278 | 229 => 92 | n => n, fun | n => n⟩
theorem Tryz.lays189 : Go.Proofs.Lays.n189 Tryz.prog Tryz.lays189_ren := {
 mixed := by kernel_rfl
 f125 := Tryz.func172.trans (congrArg some (by kernel_rfl))
 f128 := Tryz.func194.trans (congrArg some (by kernel_rfl))
 f129 := Tryz.func195.trans (congrArg some (by kernel_rfl))
 f189 := Tryz.func159.trans (congrArg some (by kernel_rfl))
 f215 := Tryz.func220.trans (congrArg some (by kernel_rfl))
 f216 := Tryz.func205.trans (congrArg some (by kernel_rfl))
 f257 := Tryz.func179.trans (congrArg some (by kernel_rfl))
 f294 := Tryz.func199.trans (congrArg some (by kernel_rfl))
 f295 := Tryz.func200.trans (congrArg some (by kernel_rfl))
 f296 := Tryz.func201.trans (congrArg some (by kernel_rfl))
 f297 := Tryz.func202.trans (congrArg some (by kernel_rfl))
 f298 := Tryz.func203.trans (congrArg some (by kernel_rfl))
 f299 := Tryz.func204.trans (congrArg some (by kernel_rfl))
 f300 := Tryz.func206.trans (congrArg some (by kernel_rfl))
 f301 := Tryz.func207.trans (congrArg some (by kernel_rfl))
 f328 := Tryz.func217.trans (congrArg some (by kernel_rfl))
 f329 := Tryz.func211.trans (congrArg some (by kernel_rfl))
 f330 := Tryz.func212.trans (congrArg some (by kernel_rfl))
 f331 := Tryz.func218.trans (congrArg some (by kernel_rfl))
 f332 := Tryz.func219.trans (congrArg some (by kernel_rfl))
 f343 := Tryz.func223.trans (congrArg some (by kernel_rfl))
 t0 := Tryz.underlying0
 a0 := Tryz.isAgg0
 z0 := Tryz.sizeOf0
 v0 := Tryz.zeroValue0
 t3 := Tryz.underlying3
 a3 := Tryz.isAgg3
 z3 := Tryz.sizeOf3
 v3 := Tryz.zeroValue3
 t4 := Tryz.underlying4
 a4 := Tryz.isAgg4
 z4 := Tryz.sizeOf4
 v4 := Tryz.zeroValue4
 t5 := Tryz.underlying5
 a5 := Tryz.isAgg5
 z5 := Tryz.sizeOf5
 v5 := Tryz.zeroValue5
 t9 := Tryz.underlying9
 a9 := Tryz.isAgg9
 z9 := Tryz.sizeOf9
 v9 := Tryz.zeroValue9
 t28 := Tryz.underlying24
 a28 := Tryz.isAgg24
 z28 := Tryz.sizeOf24
 v28 := Tryz.zeroValue24
 t46 := Tryz.underlying178
 a46 := Tryz.isAgg178
 z46 := Tryz.sizeOf178
 v46 := Tryz.zeroValue178
 t51 := Tryz.underlying258
 a51 := Tryz.isAgg258
 z51 := Tryz.sizeOf258
 v51 := Tryz.zeroValue258
 t53 := Tryz.underlying68
 a53 := Tryz.isAgg68
 z53 := Tryz.sizeOf68
 v53 := Tryz.zeroValue68
 t131 := Tryz.underlying184
 a131 := Tryz.isAgg184
 z131 := Tryz.sizeOf184
 v131 := Tryz.zeroValue184
 t182 := Tryz.underlying250
 a182 := Tryz.isAgg250
 z182 := Tryz.sizeOf250
 v182 := Tryz.zeroValue250
 t183 := Tryz.underlying251
 a183 := Tryz.isAgg251
 z183 := Tryz.sizeOf251
 v183 := Tryz.zeroValue251
 t218 := Tryz.underlying268
 a218 := Tryz.isAgg268
 z218 := Tryz.sizeOf268
 v218 := Tryz.zeroValue268
 t222 := Tryz.underlying272
 a222 := Tryz.isAgg272
 z222 := Tryz.sizeOf272
 v222 := Tryz.zeroValue272
 t228 := Tryz.underlying278
 a228 := Tryz.isAgg278
 z228 := Tryz.sizeOf278
 v228 := Tryz.zeroValue278
 t229 := Tryz.underlying92
 a229 := Tryz.isAgg92
 z229 := Tryz.sizeOf92
 v229 := Tryz.zeroValue92 }
open Go.Sort Go.RowKit in
theorem Tryz.slices_Sort_int (blk off cap : Nat) (zs : List Int) (w : World) (hH : Holds (Value.int .i64) w blk off zs.toArray) (hblk : blk < w.heap.size) (hsz : zs.length < 4611686018427387904) :
  Calls Tryz.prog 159 #[.slice (some ⟨blk, off, none⟩) zs.length cap] w fun e w' =>
   e = .returned (.tuple #[]) ∧ ∃ n os, w' = grow (putRow (Value.int .i64) (Sort.ahead w n) blk off (zs.mergeSort fun x y => decide (x ≤ y)).toArray) os := Any.slices_Sort_int Tryz.lays189 blk off cap zs w hH hblk hsz
def Tryz.laysNm220_ren : Go.Shelf.Ren := ⟨fun | 20 => 160 | n => n, fun | 22 => 24 | 3 => 3 | 4 => 4 | 0 => 0 | n => n, fun | n => n⟩
theorem Tryz.laysNm220 : Go.Proofs.Lays2.n20 Tryz.prog Tryz.laysNm220_ren := {
 mixed := by kernel_rfl
 f20 := Tryz.func160.trans (congrArg some (by kernel_rfl))
 t0 := Tryz.underlying0
 a0 := Tryz.isAgg0
 z0 := Tryz.sizeOf0
 v0 := Tryz.zeroValue0
 t3 := Tryz.underlying3
 a3 := Tryz.isAgg3
 z3 := Tryz.sizeOf3
 v3 := Tryz.zeroValue3
 t4 := Tryz.underlying4
 a4 := Tryz.isAgg4
 z4 := Tryz.sizeOf4
 v4 := Tryz.zeroValue4
 t22 := Tryz.underlying24
 a22 := Tryz.isAgg24
 z22 := Tryz.sizeOf24
 v22 := Tryz.zeroValue24
 i3 := by kernel_rfl }
open Go.RowKit Go.Lib Go.Sort in
theorem Tryz.slices_Compact_int (blk off cap : Nat) (zs : List Int) (w : World) (hH : Holds (Value.int .i64) w blk off zs.toArray) (hsz : zs.length ≤ 9223372036854775807) (hcap : zs.length ≤ cap) :
  Calls Tryz.prog 160 #[.slice (some ⟨blk, off, none⟩) zs.length cap] w fun e w' => e = .returned (.slice (some ⟨blk, off, none⟩) (Lib.compact zs).length cap) ∧ ∃ q, w' = putRow (Value.int .i64) (Sort.ahead w q) blk off (Lib.compact zs ++ List.replicate (zs.length - (Lib.compact zs).length) 0).toArray := Any.slices_Compact_int Tryz.laysNm220 blk off cap zs w hH hsz hcap
end Go.Proofs
namespace Go.Proofs.YthknbpijaoljgaaGreatDoor
open Go.Sy
theorem wordsC_some (c : UInt8) : ∀ (s : List UInt8), 0 ≤ Lib.indexByte s c → Lib.indexByte s c < s.length ∧ wordsC c s = s.take (Lib.indexByte s c).toNat :: wordsC c (s.drop ((Lib.indexByte s c).toNat + 1)) ∧ s.count c = 1 + (s.drop ((Lib.indexByte s c).toNat + 1)).count c
 | [], h => by simp [Lib.indexByte] at h
 | b :: t, h => by
  have hge := Lib.indexByte_ge t c
  by_cases hb : b = c
  ·obtain rfl := hb
   have e : Lib.indexByte (b :: t) b = 0 := by simp [Lib.indexByte]
   rw [e]
   refine ⟨by simp, by simp [wordsC], by simp; omega⟩
  ·have hb' : (b == c) = false := beq_eq_false_iff_ne.2 hb
   have e : Lib.indexByte (b :: t) c = if Lib.indexByte t c == -1 then -1 else Lib.indexByte t c + 1 := by simp [Lib.indexByte, hb]
   rw [e] at h ⊢
   by_cases h1 : Lib.indexByte t c = -1
   ·rw [h1] at h; simp at h
   ·have h2 : (Lib.indexByte t c == -1) = false := by simpa using h1
    rw [h2] at h ⊢
    simp only [Bool.false_eq_true, if_false] at h ⊢
    obtain ⟨k1, k2, k3⟩ := wordsC_some c t (by omega)
    have hn : (Lib.indexByte t c + 1).toNat = (Lib.indexByte t c).toNat + 1 := by omega
    rw [hn]
    refine ⟨by simp; omega, ?_, ?_⟩
    ·simp only [wordsC, if_neg hb, k2, List.take_succ_cons, List.drop_succ_cons]
    ·simp only [List.drop_succ_cons, List.count_cons, hb', Bool.false_eq_true, if_false, Nat.add_zero]
     exact k3
end Go.Proofs.YthknbpijaoljgaaGreatDoor
namespace Go.Proofs.YthknbpijaoljgaaGreatDoor
open Go.Sy
theorem none_of {c : UInt8} {r : List UInt8} (h : r.count c = 0) : Lib.indexByte r c = -1 := by
 by_cases h0 : 0 ≤ Lib.indexByte r c
 ·have := (wordsC_some c r h0).2.2
  omega
 ·have := Lib.indexByte_ge r c
  omega
end Go.Proofs.YthknbpijaoljgaaGreatDoor
namespace Go.Proofs.YthknbpijaoljgaaGreatDoor
open Go.Sy
theorem trimS_nil {s : List UInt8} : (trimS s == []) = s.all signB := by
 have key : ∀ l : List UInt8, l.dropWhile signB = [] ↔ l.all signB = true := by
  intro l
  induction l with
  | nil => simp
  | cons a l ih =>
   rw [List.all_cons, Bool.and_eq_true]
   cases ha : signB a with
   | true => rw [List.dropWhile_cons_of_pos ha, ih]; simp
   | false => rw [List.dropWhile_cons_of_neg (by simp [ha])]; simp
 have hall : trimS s = [] ↔ s.all signB = true := by
  rw [trimS, key, trimR]
  constructor
  ·intro h
   by_cases h0 : s.all signB = true
   ·exact h0
   ·exfalso
    have hne : s.reverse.dropWhile signB ≠ [] := fun he => h0 (by rw [← List.all_reverse]; exact (key _).1 he)
    have hd := List.head_dropWhile_not signB hne
    rw [List.all_reverse] at h
    have := List.all_eq_true.1 h _ (List.head_mem hne)
    rw [this] at hd; cases hd
  ·intro h
   rw [List.all_reverse, (key _).2 (by rw [List.all_reverse]; exact h)]; rfl
 cases h : s.all signB with
 | true => rw [hall.2 h]; rfl
 | false =>
  have : trimS s ≠ [] := fun he => by rw [hall.1 he] at h; cases h
  simpa using this
theorem name_ok (s : List UInt8) : FnC Tryz.prog 209 [.d (.st s)] (.d (.bl (nameB s))) := by
 refine FnC.intro ti_ok Tryz.func209 rfl Tryz.ntmps209 Tryz.call209 rfl (Nat.le_of_ble_eq_true rfl) rfl ?_
 by_cases h0 : s = []
 ·subst h0
  (repeat' ((conv=>whnf);first|with_reducible refine gA ?_|(with_reducible first|refine gB ?_|refine gZ (fun x hx hu=>?_)|refine gY (fun x hx=>?_)|refine gE ?_|refine Both.mk ?_ ?_|refine gS (fun h=>?_) (fun h=>?_)|refine Spl.nt ?_|refine Spl.mk (fun h=>?_) (fun h=>?_))))
  rfl
 have hp : 1 ≤ s.length := List.length_pos_iff.2 h0
 by_cases h8 : s.length ≤ 8
 ·by_cases h1 : s = [46]
  ·subst h1
   (repeat' ((conv=>whnf);first|with_reducible refine gA ?_|(with_reducible first|refine gB ?_|refine gZ (fun x hx hu=>?_)|refine gY (fun x hx=>?_)|refine gE ?_|refine Both.mk ?_ ?_|refine gS (fun h=>?_) (fun h=>?_)|refine Spl.nt ?_|refine Spl.mk (fun h=>?_) (fun h=>?_))))
   rfl
  by_cases h2 : s = [46, 46]
  ·subst h2
   (repeat' ((conv=>whnf);first|with_reducible refine gA ?_|(with_reducible first|refine gB ?_|refine gZ (fun x hx hu=>?_)|refine gY (fun x hx=>?_)|refine gE ?_|refine Both.mk ?_ ?_|refine gS (fun h=>?_) (fun h=>?_)|refine Spl.nt ?_|refine Spl.mk (fun h=>?_) (fun h=>?_))))
   rfl
  rw [nameB_yes hp h8 h1 h2, ← trimS_nil]
  (repeat' ((conv=>whnf);first|with_reducible refine gA ?_|refine CallE.con ⟨_, trim_ok s h0 (by omega), ?_⟩|(with_reducible first|refine gB ?_|refine gZ (fun x hx hu=>?_)|refine gY (fun x hx=>?_)|refine gE ?_|refine Both.mk ?_ ?_|refine gS (fun h=>?_) (fun h=>?_)|refine Spl.nt ?_|refine Spl.mk (fun h=>?_) (fun h=>?_))))
  rfl
 ·rw [nameB_no (by omega)]
  (repeat' ((conv=>whnf);first|with_reducible refine gA ?_|(with_reducible first|refine gB ?_|refine gZ (fun x hx hu=>?_)|refine gY (fun x hx=>?_)|refine gE ?_|refine Both.mk ?_ ?_|refine gS (fun h=>?_) (fun h=>?_)|refine Spl.nt ?_|refine Spl.mk (fun h=>?_) (fun h=>?_))))
  rfl
end Go.Proofs.YthknbpijaoljgaaGreatDoor
namespace Go.Proofs.YthknbpijaoljgaaGreatDoor
open Go.Sy
def encS (s : List UInt8) : List D := s.map (fun b => .it .u8 b.toNat)
def zeroS : List UInt8 := List.replicate 32 0
theorem encS_len (s : List UInt8) : (encS s).length = s.length := List.length_map ..
theorem eqS : ∀ (s t : List UInt8), s.length = t.length → eqDs (encS s) (encS t) = decide (s = t)
 | [], [], _ => rfl
 | [], b :: t, h => by cases h
 | a :: s, [], h => by cases h
 | a :: s, b :: t, h => by
  have ih := eqS s t (by simpa using h)
  show (eqD (.it .u8 a.toNat) (.it .u8 b.toNat) && eqDs (encS s) (encS t)) = _
  rw [ih, Bool.eq_iff_iff]
  simp only [eqD, Bool.and_eq_true, beq_iff_eq, decide_eq_true_eq, List.cons.injEq]
  refine and_congr_left' ⟨fun h => UInt8.toNat.inj (by omega), fun h => by rw [h]⟩
theorem likeS : ∀ (s t : List UInt8), s.length = t.length → likes (encS s) (encS t) = true
 | [], [], _ => rfl
 | [], b :: t, h => by cases h
 | a :: s, [], h => by cases h
 | a :: s, b :: t, h => by
  have ih := likeS s t (by simpa using h)
  show (likeD (.it .u8 a.toNat) (.it .u8 b.toNat) && likes (encS s) (encS t)) = true
  rw [ih]; rfl
theorem likeSS (s t : List UInt8) (hs : s.length = 32) (ht : t.length = 32) : (true && (likes (encS zeroS) (encS s) && likes (encS zeroS) (encS t))) = true := by
 rw [likeS _ _ (by rw [hs]; rfl), likeS _ _ (by rw [ht]; rfl)]; rfl
theorem allD_map : ∀ (l : List D), Sy.allD (l.map AV.d) = some l
 | [] => rfl
 | x :: l => by show (match Sy.allD (l.map AV.d) with | some l => some (x :: l) | none => none) = _; rw [allD_map l]
theorem ld_sec {ty : Ty} (ha : ty.kd.agg = true) (hz : ty.size = 32) {s : List UInt8} (hs : s.length = 32) : ldA ty 0 ((encS s).map AV.d) = .dg 32 (encS s) := by
 unfold ldA
 rw [ha, cond_true, hz, List.drop_zero, List.take_of_length_le (by rw [List.length_map, encS_len, hs]; exact Nat.le_refl _)]
 unfold mkAg
 rw [allD_map]
theorem ld_byte {ty : Ty} (ha : ty.kd.agg = false) {s : List UInt8} {k : Nat} {b : UInt8} (hb : s[k]? = some b) : ldA ty k ((encS s).map AV.d) = .d (.it .u8 b.toNat) := by
 unfold ldA
 rw [ha, cond_false, List.getD_eq_getElem?_getD, List.getElem?_map, encS, List.getElem?_map, hb]; rfl
theorem zero_ok (s : List UInt8) (hs : s.length = 32) : FnC Tryz.prog 161 [.dg 32 (encS s)] (.d (.bl (decide (s = zeroS)))) := by
 refine FnC.intro ti_ok Tryz.func161 rfl Tryz.ntmps161 Tryz.call161 rfl (Nat.le_of_ble_eq_true rfl) rfl ?_
 (repeat' ((conv=>whnf);first|with_reducible refine gA ?_|refine AtA.eq (ld_sec rfl rfl hs) ?_ | refine cond_tt (likeSS s zeroS hs rfl) ?_|(with_reducible first|refine gB ?_|refine gZ (fun x hx hu=>?_)|refine gY (fun x hx=>?_)|refine gE ?_|refine Both.mk ?_ ?_|refine gS (fun h=>?_) (fun h=>?_)|refine Spl.nt ?_|refine Spl.mk (fun h=>?_) (fun h=>?_))))
 exact bl_eq (eqS s zeroS (by rw [hs]; rfl))
theorem fits_ok (a n : Int) : FnC Tryz.prog 180 [.d (.it .i64 a), .d (.it .i64 n)] (.d (.bl (decide (0 ≤ a ∧ a ≤ 32 ∧ 0 ≤ n ∧ n ≤ 32 - a)))) := by
 refine FnC.intro ti_ok Tryz.func180 rfl Tryz.ntmps180 Tryz.call180 rfl (Nat.le_of_ble_eq_true rfl) rfl ?_
 by_cases h0 : 0 ≤ a ∧ a ≤ 32
 all_goals (repeat' ((conv=>whnf);first|with_reducible refine gA ?_|(with_reducible first|refine gB ?_|refine gZ (fun x hx hu=>?_)|refine gY (fun x hx=>?_)|refine gE ?_|refine Both.mk ?_ ?_|refine gS (fun h=>?_) (fun h=>?_)|refine Spl.nt ?_|refine Spl.mk (fun h=>?_) (fun h=>?_))))
 all_goals refine bl_eq ?_
 all_goals first | (rw [eq_comm]; exact decide_eq_false (by omega)) | (rw [Bool.eq_iff_iff]; simp; omega)
end Go.Proofs.YthknbpijaoljgaaGreatDoor
namespace Go.Proofs.YthknbpijaoljgaaGreatDoor
open Go.Sy
structure Ent where
 u : Bool
 p : Int
 n : List UInt8
 t : Int
deriving DecidableEq
def encE (x : Ent) : List D := [.bl x.u, .it .i64 x.p, .st x.n, .it .i64 x.t]
def RE (x : Ent) : Prop := x.u = false ∧ x.p = 0 ∧ x.n = [] ∧ x.t = 0 ∨ x.u = true ∧ 0 ≤ x.p ∧ x.p < 16 ∧ 1 ≤ x.t ∧ x.t < 16 ∧ nameB x.n = true
instance (x : Ent) : Decidable (RE x) := by unfold RE; infer_instance
theorem e_ff {p : Prop} [Decidable p] (h : ¬ p) : AV.d (.bl false) = AV.d (.bl (decide p)) := by rw [decide_eq_false h]
theorem e_of {e : Bool} {p : Prop} [Decidable p] (h : e = true ↔ p) : AV.d (.bl e) = AV.d (.bl (decide p)) := by
 have : e = decide p := by rw [Bool.eq_iff_iff, h, decide_eq_true_eq]
 rw [this]
theorem eqE4 (a a' : Bool) (b b' : Int) (c c' : List UInt8) (d d' : Int) : eqDs [.bl a, .it .i64 b, .st c, .it .i64 d] [.bl a', .it .i64 b', .st c', .it .i64 d'] = decide (a = a' ∧ b = b' ∧ c = c' ∧ d = d') := by
 rw [Bool.eq_iff_iff]; simp [eqDs, eqD]
theorem e_tr {a b : Bool} {v : AV} (h : a = b) (h2 : AV.d (.bl b) = v) : AV.d (.bl a) = v := by rw [h, h2]
theorem re_ok (x : Ent) : FnC Tryz.prog 182 [.dg 4 (encE x)] (.d (.bl (decide (RE x)))) := by
 refine FnC.intro ti_ok Tryz.func182 rfl Tryz.ntmps182 Tryz.call182 rfl (Nat.le_of_ble_eq_true rfl) rfl ?_
 have hn := name_ok x.n
 cases hu : x.u with
 | false =>
  have hu' : (!x.u) = true := by rw [hu]; rfl
  (repeat' ((conv=>whnf);first|with_reducible refine gA ?_|(with_reducible first|refine gB ?_|refine gZ (fun x hx hu=>?_)|refine gY (fun x hx=>?_)|refine gE ?_|refine Both.mk ?_ ?_|refine gS (fun h=>?_) (fun h=>?_)|refine Spl.nt ?_|refine Spl.mk (fun h=>?_) (fun h=>?_))))
  exact e_tr (eqE4 _ _ _ _ _ _ _ _) (e_of (by simp [RE, hu]))
 | true =>
  have hu' : (!x.u) = false := by rw [hu]; rfl
  (repeat' ((conv=>whnf);first|with_reducible refine gA ?_|(refine CallE.con ⟨_, hn, ?_⟩) | with_reducible refine CallI.inl ti_ok i208 rfl ?_|(with_reducible first|refine gB ?_|refine gZ (fun x hx hu=>?_)|refine gY (fun x hx=>?_)|refine gE ?_|refine Both.mk ?_ ?_|refine gS (fun h=>?_) (fun h=>?_)|refine Spl.nt ?_|refine Spl.mk (fun h=>?_) (fun h=>?_))))
  all_goals first
   | (refine e_ff ?_; simp only [RE, hu]; simp; omega)
   | exact e_of ⟨fun hb => .inr ⟨hu, by omega, by omega, by omega, by omega, hb⟩, fun h => h.elim (fun h => by rw [hu] at h; cases h.1) fun h => h.2.2.2.2.2⟩
theorem refRE_ok (x : Ent) : FnC Tryz.prog 164 [.dg 4 (encE x)] (.d (.bl (decide (RE x)))) := by
 refine FnC.intro ti_ok Tryz.func164 rfl Tryz.ntmps164 Tryz.call164 rfl (Nat.le_of_ble_eq_true rfl) rfl ?_
 have hn := refName_ok x.n
 cases hu : x.u with
 | false =>
  have hu' : (!x.u) = true := by rw [hu]; rfl
  (repeat' ((conv=>whnf);first|with_reducible refine gA ?_|(with_reducible first|refine gB ?_|refine gZ (fun x hx hu=>?_)|refine gY (fun x hx=>?_)|refine gE ?_|refine Both.mk ?_ ?_|refine gS (fun h=>?_) (fun h=>?_)|refine Spl.nt ?_|refine Spl.mk (fun h=>?_) (fun h=>?_))))
  exact e_tr (eqE4 _ _ _ _ _ _ _ _) (e_of (by simp [RE, hu]))
 | true =>
  have hu' : (!x.u) = false := by rw [hu]; rfl
  (repeat' ((conv=>whnf);first|with_reducible refine gA ?_|(refine CallE.con ⟨_, hn, ?_⟩)|(with_reducible first|refine gB ?_|refine gZ (fun x hx hu=>?_)|refine gY (fun x hx=>?_)|refine gE ?_|refine Both.mk ?_ ?_|refine gS (fun h=>?_) (fun h=>?_)|refine Spl.nt ?_|refine Spl.mk (fun h=>?_) (fun h=>?_))))
  all_goals first
   | (refine e_ff ?_; simp only [RE, hu]; simp; omega)
   | exact e_of ⟨fun hb => .inr ⟨hu, by omega, by omega, by omega, by omega, hb⟩, fun h => h.elim (fun h => by rw [hu] at h; cases h.1) fun h => h.2.2.2.2.2⟩
end Go.Proofs.YthknbpijaoljgaaGreatDoor
namespace Go.Proofs.YthknbpijaoljgaaGreatDoor
open Go.Sy
def by8e (n : Int) : UInt8 := UInt8.ofNat n.toNat
theorem by8e_ok {n : Int} (h : 0 ≤ n ∧ n < 256) : ((by8e n).toNat : Int) = n := by
 unfold by8e
 rw [UInt8.toNat_ofNat']
 omega
def entS (x : Ent) : List UInt8 := if x.u = true then [1, by8e x.p, by8e x.t, by8e x.n.length, 0, 0, 0, 0, 0, 0, 0, 0, 0, 0, 0, 0] ++ x.n ++ List.replicate (16 - x.n.length) 0 else zeroS
def c16 (x : Ent) : List D := [.it .u8 1, .it .u8 x.p, .it .u8 x.t, .it .u8 (x.n.length : Nat), .it .u8 0, .it .u8 0, .it .u8 0, .it .u8 0, .it .u8 0, .it .u8 0, .it .u8 0, .it .u8 0, .it .u8 0, .it .u8 0, .it .u8 0, .it .u8 0]
theorem st_all (l : List AV) : l = [] ++ l ++ [] := by simp
theorem bytes_flat : ∀ (n : List UInt8), (bytesD n).flatten = encS n
 | [] => rfl
 | b :: n => by show [D.it .u8 b.toNat] ++ (bytesD n).flatten = D.it .u8 b.toNat :: encS n; rw [bytes_flat n]; rfl
theorem encS_rep (k : Nat) : encS (List.replicate k 0) = List.replicate k (.it .u8 0) := by unfold encS; rw [List.map_replicate]; rfl
theorem entS_len (x : Ent) (hx : RE x) : (entS x).length = 32 := by
 unfold entS
 unfold RE at hx
 split
 ·rename_i hu
  rcases hx with h | ⟨_, _, _, _, _, hn⟩
  ·rw [hu] at h; cases h.1
  ·have : x.n.length ≤ 8 := by
    unfold nameB at hn
    simp only [Bool.and_eq_true, decide_eq_true_eq] at hn; omega
   simp; omega
 ·rfl
theorem entS_enc {x : Ent} (hu : x.u = true) (hp : 0 ≤ x.p ∧ x.p < 16) (ht : 0 ≤ x.t ∧ x.t < 16) (hn : x.n.length ≤ 16) :
  encS (entS x) = c16 x ++ encS x.n ++ List.replicate (16 - x.n.length) (.it .u8 0) := by
 unfold entS
 rw [if_pos hu]
 show encS (_ ++ x.n ++ _) = _
 unfold encS
 rw [List.map_append, List.map_append]
 have e2 : List.map (fun b : UInt8 => D.it .u8 b.toNat) [1, by8e x.p, by8e x.t, by8e x.n.length, 0, 0, 0, 0, 0, 0, 0, 0, 0, 0, 0, 0] = c16 x := by
  show [_, D.it .u8 (by8e x.p).toNat, D.it .u8 (by8e x.t).toNat, D.it .u8 (by8e x.n.length).toNat, _, _, _, _, _, _, _, _, _, _, _, _] = _
  rw [by8e_ok (by omega), by8e_ok (by omega), by8e_ok (by omega)]; rfl
 rw [e2]
 have e3 := encS_rep (16 - x.n.length)
 unfold encS at e3
 rw [e3]
theorem entS_cells {x : Ent} (hu : x.u = true) (hp : 0 ≤ x.p ∧ x.p < 16) (ht : 0 ≤ x.t ∧ x.t < 16) (hn : x.n.length ≤ 16) :
  (encS (entS x)).map AV.d = ((c16 x ++ List.replicate 16 (D.it .u8 0)).map AV.d).take 16 ++ (bytesD x.n).flatten.map AV.d ++ ((c16 x ++ List.replicate 16 (D.it .u8 0)).map AV.d).drop (16 + x.n.length * 1) := by
 have e1 := entS_enc hu hp ht hn
 have hl : (c16 x).length = 16 := rfl
 rw [e1, bytes_flat, List.map_append, List.map_append, List.map_append]
 have t1 : ((c16 x).map AV.d ++ (List.replicate 16 (D.it .u8 0)).map AV.d).take 16 = (c16 x).map AV.d := List.take_left' (by simp [hl])
 have t2 : ((c16 x).map AV.d ++ (List.replicate 16 (D.it .u8 0)).map AV.d).drop (16 + x.n.length * 1) = (List.replicate (16 - x.n.length) (D.it .u8 0)).map AV.d := by
  rw [List.drop_append, List.drop_eq_nil_of_le (by simp [hl]), List.nil_append, List.length_map, hl, List.map_replicate, List.map_replicate, List.drop_replicate]
  congr 1; omega
 rw [t1, t2]
theorem bytesD_l (n : List UInt8) : (bytesD n).length = n.length := by unfold bytesD; exact List.length_map ..
theorem entS_cells2 {x : Ent} {i j : Nat} (hi : i = 16) (hj : j = 16 + x.n.length * 1) (hu : x.u = true) (hp : 0 ≤ x.p ∧ x.p < 16) (ht : 0 ≤ x.t ∧ x.t < 16) (hn : x.n.length ≤ 16) :
  (encS (entS x)).map AV.d = ((c16 x ++ List.replicate 16 (D.it .u8 0)).map AV.d).take i ++ (bytesD x.n).flatten.map AV.d ++ ((c16 x ++ List.replicate 16 (D.it .u8 0)).map AV.d).drop j := by
 subst hi hj; exact entS_cells hu hp ht hn
def entR (x : Ent) : AV := if RE x then .tup [.dg 32 (encS (entS x)), .d (.bl true)] else .tup [.dg 32 (encS zeroS), .d (.bl false)]
set_option maxHeartbeats 4000000 in
theorem ent_ok (x : Ent) : FnC Tryz.prog 163 [.dg 4 (encE x)] (entR x) := by
 have hr := re_ok x
 unfold entR
 by_cases h : RE x
 ·have hl := entS_len x h
  rw [if_pos h]
  rw [decide_eq_true h] at hr
  cases hu : x.u with
  | true =>
   obtain ⟨hp, ht, hn⟩ : (0 ≤ x.p ∧ x.p < 16) ∧ (0 ≤ x.t ∧ x.t < 16) ∧ x.n.length ≤ 8 := by
    unfold RE at h
    rcases h with h | ⟨_, h1, h2, h3, h4, hn⟩
    ·rw [hu] at h; cases h.1
    ·unfold nameB at hn
     simp only [Bool.and_eq_true, decide_eq_true_eq] at hn; omega
   refine FnC.intro ti_ok Tryz.func163 rfl Tryz.ntmps163 Tryz.call163 rfl (Nat.le_of_ble_eq_true rfl) rfl ?_
   (repeat' ((conv=>whnf);first|with_reducible refine gA ?_|((with_reducible refine callE_id ?_); (refine CallE.con ⟨_, hr, ?_⟩)) | ((with_reducible refine letC_id ?_); first | refine LetC.mk ((c16 x ++ List.replicate 16 (D.it .u8 0)).map AV.d) rfl ?_ | refine LetC.mk ((encS (entS x)).map AV.d) (entS_cells2 rfl (by show 0 + 16 * 1 + (bytesD x.n).length * 1 = _; rw [bytesD_l]) hu (by omega) (by omega) (by omega)) ?_ | refine LetC.mk ((encS (entS x)).map AV.d) (st_all _) ?_ | refine LetC.now ?_) | refine AtA.eq (ld_sec rfl rfl hl) ?_ | with_reducible refine AtA.mk' ?_|(with_reducible first|refine gB ?_|refine gZ (fun x hx hu=>?_)|refine gY (fun x hx=>?_)|refine gE ?_|refine Both.mk ?_ ?_|refine gS (fun h=>?_) (fun h=>?_)|refine Spl.nt ?_|refine Spl.mk (fun h=>?_) (fun h=>?_))))
   conv => whnf
   conv in (ldA _ _ _) => tactic => exact ld_sec rfl rfl hl
   rfl
  | false =>
   have he : entS x = zeroS := by unfold entS; rw [hu]; rfl
   rw [he]
   refine FnC.intro ti_ok Tryz.func163 rfl Tryz.ntmps163 Tryz.call163 rfl (Nat.le_of_ble_eq_true rfl) rfl ?_
   (repeat' ((conv=>whnf);first|with_reducible refine gA ?_|((with_reducible refine callE_id ?_); (refine CallE.con ⟨_, hr, ?_⟩)) | with_reducible refine AtA.mk' ?_|(with_reducible first|refine gB ?_|refine gZ (fun x hx hu=>?_)|refine gY (fun x hx=>?_)|refine gE ?_|refine Both.mk ?_ ?_|refine gS (fun h=>?_) (fun h=>?_)|refine Spl.nt ?_|refine Spl.mk (fun h=>?_) (fun h=>?_))))
   all_goals rfl
 ·rw [if_neg h]
  rw [decide_eq_false h] at hr
  refine FnC.intro ti_ok Tryz.func163 rfl Tryz.ntmps163 Tryz.call163 rfl (Nat.le_of_ble_eq_true rfl) rfl ?_
  (repeat' ((conv=>whnf);first|with_reducible refine gA ?_|((with_reducible refine callE_id ?_); (refine CallE.con ⟨_, hr, ?_⟩)) | with_reducible refine AtA.mk' ?_|(with_reducible first|refine gB ?_|refine gZ (fun x hx hu=>?_)|refine gY (fun x hx=>?_)|refine gE ?_|refine Both.mk ?_ ?_|refine gS (fun h=>?_) (fun h=>?_)|refine Spl.nt ?_|refine Spl.mk (fun h=>?_) (fun h=>?_))))
  all_goals rfl
end Go.Proofs.YthknbpijaoljgaaGreatDoor
namespace Go.Proofs.YthknbpijaoljgaaGreatDoor
open Go.Sy
def eC (x : Ent) (i : Nat) : List D := c16 x ++ encS (x.n.take i) ++ List.replicate (16 - i) (.it .u8 0)
theorem cells32 {a b : List AV} (h : a = b) : Ob.cells 32 a = Ob.cells 32 b := by rw [h]
theorem eC_step {x : Ent} {i j : Nat} {c : UInt8} (hi : i < x.n.length) (hn : x.n.length ≤ 8) (hc : x.n[i]? = some c) (hj : j = 16 + i) :
  ((eC x i).map AV.d).take j ++ [AV.d (.it .u8 c.toNat)] ++ ((eC x i).map AV.d).drop (j+1) = (eC x (i+1)).map AV.d := by
 subst hj
 have hl : (c16 x).length = 16 := rfl
 have hL : ((c16 x).map AV.d ++ (encS (x.n.take i)).map AV.d).length = 16 + i := by simp [encS_len, hl]; omega
 unfold eC
 rw [List.map_append, List.map_append, List.map_append, List.map_append]
 have t1 := List.take_left' (l₁ := (c16 x).map AV.d ++ (encS (x.n.take i)).map AV.d) (l₂ := (List.replicate (16 - i) (D.it .u8 0)).map AV.d) hL
 have t2 : ((c16 x).map AV.d ++ (encS (x.n.take i)).map AV.d ++ (List.replicate (16 - i) (D.it .u8 0)).map AV.d).drop (16 + i + 1) = (List.replicate (16 - (i+1)) (D.it .u8 0)).map AV.d := by
  rw [List.drop_append, List.drop_eq_nil_of_le (by omega), List.nil_append, hL, List.map_replicate, List.map_replicate, List.drop_replicate]
  congr 1; omega
 rw [t1, t2]
 have t3 : encS (x.n.take (i+1)) = encS (x.n.take i) ++ [D.it .u8 c.toNat] := by
  rw [List.take_add_one, hc]; unfold encS; rw [List.map_append]; rfl
 rw [t3, List.map_append]
 simp only [List.append_assoc]; rfl
set_option maxHeartbeats 4000000 in
theorem refEnt_ok (x : Ent) : FnC Tryz.prog 124 [.dg 4 (encE x)] (entR x) := by
 have hr := refRE_ok x
 unfold entR
 by_cases h : RE x
 ·have hl := entS_len x h
  rw [if_pos h]
  rw [decide_eq_true h] at hr
  cases hu : x.u with
  | true =>
   have hu' : (!x.u) = false := by rw [hu]; rfl
   obtain ⟨hp, ht, hn⟩ : (0 ≤ x.p ∧ x.p < 16) ∧ (0 ≤ x.t ∧ x.t < 16) ∧ x.n.length ≤ 8 := by
    unfold RE at h
    rcases h with h | ⟨_, h1, h2, h3, h4, hn⟩
    ·rw [hu] at h; cases h.1
    ·unfold nameB at hn
     simp only [Bool.and_eq_true, decide_eq_true_eq] at hn; omega
   refine FnC.intro ti_ok Tryz.func124 rfl Tryz.ntmps124 Tryz.call124 rfl (Nat.le_of_ble_eq_true rfl) rfl ?_
   (repeat' ((conv=>whnf);first|with_reducible refine gA ?_|((with_reducible refine callE_id ?_); (refine CallE.con ⟨_, hr, ?_⟩)) | ((with_reducible refine letC_id ?_); first | refine LetC.mk ((c16 x ++ List.replicate 16 (D.it .u8 0)).map AV.d) rfl ?_ | refine LetC.now ?_) | with_reducible refine AtA.mk' ?_|(with_reducible first|refine gB ?_|refine gZ (fun x hx hu=>?_)|refine gY (fun x hx=>?_)|refine gE ?_|refine Both.mk ?_ ?_|refine gS (fun h=>?_) (fun h=>?_)|refine Spl.nt ?_|refine Spl.mk (fun h=>?_) (fun h=>?_))))
   refine loop_rule ti_ok (fun i : Nat => i ≤ x.n.length) (fun i : Nat => ⟨[(1,.ptr 0 0),(2,.ptr 1 0),(3,.d (.bl false)),(4,.ptr 2 0),(5,.d (.it .i64 (i : Nat)))], [(0,.cells 4 ((encE x).map .d)),(1,.cells 32 ((encS zeroS).map .d)),(2,.cells 32 ((eC x i).map .d))], 3⟩) (fun i => x.n.length - i) 0 (Nat.zero_le _) ⟨And.intro rfl (And.intro rfl (And.intro rfl (And.intro rfl (And.intro rfl trivial)))), And.intro rfl (And.intro rfl (And.intro rfl trivial)), rfl⟩ ?_
   intro i hi
   rcases Nat.lt_or_ge i x.n.length with hil | hil
   ·obtain ⟨c, hc⟩ := lt_get hil
    (repeat' ((conv=>whnf);first|with_reducible refine gA ?_|with_reducible refine at_known hc ?_ | with_reducible refine AtA.mk' ?_|(with_reducible first|refine gB ?_|refine gZ (fun x hx hu=>?_)|refine gY (fun x hx=>?_)|refine gE ?_|refine Both.mk ?_ ?_|refine gS (fun h=>?_) (fun h=>?_)|refine Spl.nt ?_|refine Spl.mk (fun h=>?_) (fun h=>?_))))
    refine again (i+1) (by omega) (by dsimp only; omega) (And.intro rfl (And.intro rfl (And.intro rfl (And.intro rfl (And.intro rfl trivial))))) (And.intro rfl (And.intro rfl (And.intro (cells32 (eC_step hil hn hc ?_)) trivial))) (by simp only [S.ok, List.all_cons, List.all_nil, Ob.lt, all_d]; rfl)
    show 0 + ((16:Int)+(i:Nat)).toNat * 1 = 16 + i; omega
   ·have hi' : i = x.n.length := by omega
    have hfin : eC x i = encS (entS x) := by
     unfold eC; rw [entS_enc hu hp ht (by omega), hi', List.take_length]
    rw [hfin]
    (repeat' ((conv=>whnf);first|with_reducible refine gA ?_|((with_reducible refine letC_id ?_); first | refine LetC.mk ((encS (entS x)).map AV.d) (st_all _) ?_) | refine AtA.eq (ld_sec rfl rfl hl) ?_ | with_reducible refine AtA.mk' ?_|(with_reducible first|refine gB ?_|refine gZ (fun x hx hu=>?_)|refine gY (fun x hx=>?_)|refine gE ?_|refine Both.mk ?_ ?_|refine gS (fun h=>?_) (fun h=>?_)|refine Spl.nt ?_|refine Spl.mk (fun h=>?_) (fun h=>?_))))
    conv => whnf
    conv in (ldA _ _ _) => tactic => exact ld_sec rfl rfl hl
    rfl
  | false =>
   have hu' : (!x.u) = true := by rw [hu]; rfl
   have he : entS x = zeroS := by unfold entS; rw [hu]; rfl
   rw [he]
   refine FnC.intro ti_ok Tryz.func124 rfl Tryz.ntmps124 Tryz.call124 rfl (Nat.le_of_ble_eq_true rfl) rfl ?_
   (repeat' ((conv=>whnf);first|with_reducible refine gA ?_|((with_reducible refine callE_id ?_); (refine CallE.con ⟨_, hr, ?_⟩)) | with_reducible refine AtA.mk' ?_|(with_reducible first|refine gB ?_|refine gZ (fun x hx hu=>?_)|refine gY (fun x hx=>?_)|refine gE ?_|refine Both.mk ?_ ?_|refine gS (fun h=>?_) (fun h=>?_)|refine Spl.nt ?_|refine Spl.mk (fun h=>?_) (fun h=>?_))))
   all_goals rfl
 ·rw [if_neg h]
  rw [decide_eq_false h] at hr
  refine FnC.intro ti_ok Tryz.func124 rfl Tryz.ntmps124 Tryz.call124 rfl (Nat.le_of_ble_eq_true rfl) rfl ?_
  (repeat' ((conv=>whnf);first|with_reducible refine gA ?_|((with_reducible refine callE_id ?_); (refine CallE.con ⟨_, hr, ?_⟩)) | with_reducible refine AtA.mk' ?_|(with_reducible first|refine gB ?_|refine gZ (fun x hx hu=>?_)|refine gY (fun x hx=>?_)|refine gE ?_|refine Both.mk ?_ ?_|refine gS (fun h=>?_) (fun h=>?_)|refine Spl.nt ?_|refine Spl.mk (fun h=>?_) (fun h=>?_))))
  all_goals rfl
end Go.Proofs.YthknbpijaoljgaaGreatDoor
namespace Go.Proofs.YthknbpijaoljgaaGreatDoor
open Go.Sy
theorem bytes_flat' : ∀ (n : List UInt8), (bytesD n).flatten = encS n
 | [] => rfl
 | b :: n => by show [D.it .u8 b.toNat] ++ (bytesD n).flatten = D.it .u8 b.toNat :: encS n; rw [bytes_flat' n]; rfl
set_option maxHeartbeats 4000000 in
theorem cut_ok (s : List UInt8) (hs : s.length = 32) (n : Nat) (hn : n < 256) : FnC Tryz.prog 162 [.dg 32 (encS s), .d (.it .i64 16), .d (.it .i64 (n : Nat))] (.d (.fs 1 (bytesD (if n ≤ 16 then (s.drop 16).take n else [])))) := by
 have hf := fits_ok 16 (n : Nat)
 by_cases h : n ≤ 16
 ·rw [if_pos h]
  rw [decide_eq_true (by omega)] at hf
  refine FnC.intro ti_ok Tryz.func162 rfl Tryz.ntmps162 Tryz.call162 rfl (Nat.le_of_ble_eq_true rfl) rfl ?_
  (repeat' ((conv=>whnf);first|with_reducible refine gA ?_|((with_reducible refine callE_id ?_); first | refine CallE.con ⟨_, hf, ?_⟩ | refine CallE.inl ?_) | with_reducible refine CallI.inl ti_ok i181 rfl ?_|(with_reducible first|refine gB ?_|refine gZ (fun x hx hu=>?_)|refine gY (fun x hx=>?_)|refine gE ?_|refine Both.mk ?_ ?_|refine gS (fun h=>?_) (fun h=>?_)|refine Spl.nt ?_|refine Spl.mk (fun h=>?_) (fun h=>?_))))
  have hlen : ((16 + (n : Int)).toNat - Int.toNat 16) = n := by omega
  have hL : ((s.drop 16).take n).length = n := by rw [List.length_take, List.length_drop, hs]; omega
  refine ⟨bytesD ((s.drop 16).take n), ⟨?_, ?_, ?_, ?_, ?_⟩, ?_⟩
  ·show 0 + Int.toNat 16 * 1 + ((16 + (n:Int)).toNat - Int.toNat 16) * 1 ≤ 32
   omega
  ·show (bytesD ((s.drop 16).take n)).length = ((16 + (n:Int)).toNat - Int.toNat 16)
   rw [hlen]; unfold bytesD; rw [List.length_map, hL]
  ·intro x hx
   show x.length = 1
   obtain ⟨b, _, rfl⟩ := List.mem_map.1 hx
   rfl
  ·show (((encS s).map AV.d).drop (0 + Int.toNat 16 * 1)).take (((16 + (n:Int)).toNat - Int.toNat 16) * 1) = _
   rw [hlen, bytes_flat', Nat.mul_one]
   unfold encS
   rw [List.map_take, List.map_drop, List.map_take, List.map_drop]; rfl
  ·show 0 + ((16 + (n:Int)).toNat - Int.toNat 16) ≤ 1073741824
   omega
  (repeat' ((conv=>whnf);first|with_reducible refine gA ?_|(with_reducible first|refine gB ?_|refine gZ (fun x hx hu=>?_)|refine gY (fun x hx=>?_)|refine gE ?_|refine Both.mk ?_ ?_|refine gS (fun h=>?_) (fun h=>?_)|refine Spl.nt ?_|refine Spl.mk (fun h=>?_) (fun h=>?_))))
  all_goals rfl
 ·rw [if_neg h]
  rw [decide_eq_false (by omega)] at hf
  refine FnC.intro ti_ok Tryz.func162 rfl Tryz.ntmps162 Tryz.call162 rfl (Nat.le_of_ble_eq_true rfl) rfl ?_
  (repeat' ((conv=>whnf);first|with_reducible refine gA ?_|((with_reducible refine callE_id ?_); refine CallE.con ⟨_, hf, ?_⟩)|(with_reducible first|refine gB ?_|refine gZ (fun x hx hu=>?_)|refine gY (fun x hx=>?_)|refine gE ?_|refine Both.mk ?_ ?_|refine gS (fun h=>?_) (fun h=>?_)|refine Spl.nt ?_|refine Spl.mk (fun h=>?_) (fun h=>?_))))
  all_goals (show AV.d (.fs 1 []) = _; rfl)
end Go.Proofs.YthknbpijaoljgaaGreatDoor
namespace Go.Proofs.YthknbpijaoljgaaGreatDoor
open Go.Sy
structure Ino where
 k : Int
 z : Int
 b0 : Int
 b1 : Int
 b2 : Int
 b3 : Int
deriving DecidableEq
def encI (x : Ino) : List D := [.it .i64 x.k, .it .i64 x.z, .it .i64 x.b0, .it .i64 x.b1, .it .i64 x.b2, .it .i64 x.b3]
def RI (x : Ino) : Prop := (x.k = 0 ∨ x.k = 2) ∧ x.z = 0 ∧ x.b0 = 0 ∧ x.b1 = 0 ∧ x.b2 = 0 ∧ x.b3 = 0 ∨
 x.k = 1 ∧ 0 ≤ x.z ∧ x.z ≤ 128 ∧ (0 < x.z → 1 ≤ x.b0 ∧ x.b0 ≤ 24) ∧ (x.z ≤ 0 → x.b0 = 0) ∧ (32 < x.z → 1 ≤ x.b1 ∧ x.b1 ≤ 24 ∧ x.b1 ≠ x.b0) ∧ (x.z ≤ 32 → x.b1 = 0) ∧
 (64 < x.z → 1 ≤ x.b2 ∧ x.b2 ≤ 24 ∧ x.b2 ≠ x.b0 ∧ x.b2 ≠ x.b1) ∧ (x.z ≤ 64 → x.b2 = 0) ∧ (96 < x.z → 1 ≤ x.b3 ∧ x.b3 ≤ 24 ∧ x.b3 ≠ x.b0 ∧ x.b3 ≠ x.b1 ∧ x.b3 ≠ x.b2) ∧ (x.z ≤ 96 → x.b3 = 0)
instance (x : Ino) : Decidable (RI x) := by unfold RI; infer_instance
theorem need_ok (z : Int) (h0 : 0 ≤ z) (h1 : z ≤ 128) : FnC Tryz.prog 155 [.d (.it .i64 z)] (.d (.it .i64 ((z + 31) / 32))) := by
 refine FnC.intro ti_ok Tryz.func155 rfl Tryz.ntmps155 Tryz.call155 rfl (Nat.le_of_ble_eq_true rfl) rfl ?_
 (repeat' ((conv=>whnf);first|with_reducible refine gA ?_|(with_reducible first|refine gB ?_|refine gZ (fun x hx hu=>?_)|refine gY (fun x hx=>?_)|refine gE ?_|refine Both.mk ?_ ?_|refine gS (fun h=>?_) (fun h=>?_)|refine Spl.nt ?_|refine Spl.mk (fun h=>?_) (fun h=>?_))))
 all_goals exact it_eq (by omega)
theorem refNeed_ok (z : Int) (h0 : 0 ≤ z) (h1 : z ≤ 128) : FnC Tryz.prog 125 [.d (.it .i64 z)] (.d (.it .i64 ((z + 31) / 32))) := by
 refine FnC.intro ti_ok Tryz.func125 rfl Tryz.ntmps125 Tryz.call125 rfl (Nat.le_of_ble_eq_true rfl) rfl ?_
 (repeat' ((conv=>whnf);first|with_reducible refine gA ?_|(with_reducible first|refine gB ?_|refine gZ (fun x hx hu=>?_)|refine gY (fun x hx=>?_)|refine gE ?_|refine Both.mk ?_ ?_|refine gS (fun h=>?_) (fun h=>?_)|refine Spl.nt ?_|refine Spl.mk (fun h=>?_) (fun h=>?_))))
 refine loop_rule ti_ok (fun n : Nat => n ≤ 4 ∧ (n = 0 ∨ 32 * ((n : Int) - 1) < z)) (fun n => ⟨[(0, .d (.it .i64 z)), (3, .d (.it .i64 n))], [], 0⟩) (fun n => 5 - n) 0 ⟨Nat.zero_le _, .inl rfl⟩ ⟨⟨rfl, rfl, trivial⟩, trivial, rfl⟩ ?_
 intro n ⟨n1, n2⟩
 (repeat' ((conv=>whnf);first|with_reducible refine gA ?_|(with_reducible first|refine gB ?_|refine gZ (fun x hx hu=>?_)|refine gY (fun x hx=>?_)|refine gE ?_|refine Both.mk ?_ ?_|refine gS (fun h=>?_) (fun h=>?_)|refine Spl.nt ?_|refine Spl.mk (fun h=>?_) (fun h=>?_))))
 all_goals first | exact it_eq (by omega) | refine again (n + 1) ⟨by omega, by omega⟩ (by dsimp only; omega) (And.intro rfl (And.intro (it_eq (by omega)) trivial)) trivial rfl
def RIu (x : Ino) (i : Nat) : Prop := x.k = 1 ∧ 0 ≤ x.z ∧ x.z ≤ 128 ∧ (1 ≤ i → (0 < x.z → 1 ≤ x.b0 ∧ x.b0 ≤ 24) ∧ (x.z ≤ 0 → x.b0 = 0)) ∧ (2 ≤ i → (32 < x.z → 1 ≤ x.b1 ∧ x.b1 ≤ 24 ∧ x.b1 ≠ x.b0) ∧ (x.z ≤ 32 → x.b1 = 0)) ∧
 (3 ≤ i → (64 < x.z → 1 ≤ x.b2 ∧ x.b2 ≤ 24 ∧ x.b2 ≠ x.b0 ∧ x.b2 ≠ x.b1) ∧ (x.z ≤ 64 → x.b2 = 0)) ∧ (4 ≤ i → (96 < x.z → 1 ≤ x.b3 ∧ x.b3 ≤ 24 ∧ x.b3 ≠ x.b0 ∧ x.b3 ≠ x.b1 ∧ x.b3 ≠ x.b2) ∧ (x.z ≤ 96 → x.b3 = 0))
theorem eqB4 (a b c d : Int) : eqDs [.it .i64 a, .it .i64 b, .it .i64 c, .it .i64 d] [.it .i64 0, .it .i64 0, .it .i64 0, .it .i64 0] = decide (a = 0 ∧ b = 0 ∧ c = 0 ∧ d = 0) := by
 rw [Bool.eq_iff_iff]; simp [eqDs, eqD]
theorem bl_of {e : Bool} {p : Prop} [Decidable p] (h : e = true ↔ p) : AV.d (.bl e) = AV.d (.bl (decide p)) := by
 have : e = decide p := by rw [Bool.eq_iff_iff, h, decide_eq_true_eq]
 rw [this]
theorem bl_ff {p : Prop} [Decidable p] (h : ¬ p) : AV.d (.bl false) = AV.d (.bl (decide p)) := by rw [decide_eq_false h]
theorem bl_tt {p : Prop} [Decidable p] (h : p) : AV.d (.bl true) = AV.d (.bl (decide p)) := by rw [decide_eq_true h]
theorem bl_dec {p q : Prop} [Decidable p] [Decidable q] (h : p ↔ q) : AV.d (.bl (decide p)) = AV.d (.bl (decide q)) := by
 have : decide p = decide q := by rw [Bool.eq_iff_iff, decide_eq_true_eq, decide_eq_true_eq, h]
 rw [this]
theorem bl_tr {a b : Bool} {v : AV} (h : a = b) (h2 : AV.d (.bl b) = v) : AV.d (.bl a) = v := by rw [h, h2]
set_option maxHeartbeats 2000000 in
theorem refRI_ok (x : Ino) : FnC Tryz.prog 93 [.dg 6 (encI x)] (.d (.bl (decide (RI x)))) := by
 refine FnC.intro ti_ok Tryz.func93 rfl Tryz.ntmps93 Tryz.call93 rfl (Nat.le_of_ble_eq_true rfl) rfl ?_
 (repeat' ((conv=>whnf);first|with_reducible refine gA ?_|(with_reducible first|refine gB ?_|refine gZ (fun x hx hu=>?_)|refine gY (fun x hx=>?_)|refine gE ?_|refine Both.mk ?_ ?_|refine gS (fun h=>?_) (fun h=>?_)|refine Spl.nt ?_|refine Spl.mk (fun h=>?_) (fun h=>?_))))
 all_goals first
  | exact bl_ff (by unfold RI; omega)
  | exact bl_tr (eqB4 _ _ _ _) (bl_dec (by unfold RI; omega))
  | skip
 refine loop_rule ti_ok (fun i : Nat => i ≤ 4 ∧ RIu x i) (fun i => ⟨[(1, .ptr 0 0), (3, .d (.it .i64 i))], [(0, .cells 6 ((encI x).map .d))], 1⟩) (fun n => 5 - n) 0 ⟨Nat.zero_le _, by unfold RIu; omega⟩ ⟨⟨rfl, rfl, trivial⟩, ⟨rfl, trivial⟩, rfl⟩ ?_
 intro i ⟨i1, i2⟩
 unfold RIu at i2
 have hn := refNeed_ok x.z (by omega) (by omega)
 match i, i1, i2 with
 | 0, _, i2 =>
  (repeat' ((conv=>whnf);first|with_reducible refine gA ?_|refine CallE.con ⟨_, hn, ?_⟩ | with_reducible refine LoopS.unroll ti_ok 4 ?_|(with_reducible first|refine gB ?_|refine gZ (fun x hx hu=>?_)|refine gY (fun x hx=>?_)|refine gE ?_|refine Both.mk ?_ ?_|refine gS (fun h=>?_) (fun h=>?_)|refine Spl.nt ?_|refine Spl.mk (fun h=>?_) (fun h=>?_))))
  all_goals first
   | exact bl_ff (by unfold RI; omega)
   | exact bl_tt (by unfold RI; omega)
   | refine again 1 ⟨by omega, by unfold RIu; omega⟩ (by dsimp only; omega) (And.intro rfl (And.intro rfl trivial)) (And.intro rfl trivial) rfl
 | 1, _, i2 =>
  (repeat' ((conv=>whnf);first|with_reducible refine gA ?_|refine CallE.con ⟨_, hn, ?_⟩ | with_reducible refine LoopS.unroll ti_ok 4 ?_|(with_reducible first|refine gB ?_|refine gZ (fun x hx hu=>?_)|refine gY (fun x hx=>?_)|refine gE ?_|refine Both.mk ?_ ?_|refine gS (fun h=>?_) (fun h=>?_)|refine Spl.nt ?_|refine Spl.mk (fun h=>?_) (fun h=>?_))))
  all_goals first
   | exact bl_ff (by unfold RI; omega)
   | exact bl_tt (by unfold RI; omega)
   | refine again 2 ⟨by omega, by unfold RIu; omega⟩ (by dsimp only; omega) (And.intro rfl (And.intro rfl trivial)) (And.intro rfl trivial) rfl
 | 2, _, i2 =>
  (repeat' ((conv=>whnf);first|with_reducible refine gA ?_|refine CallE.con ⟨_, hn, ?_⟩ | with_reducible refine LoopS.unroll ti_ok 4 ?_|(with_reducible first|refine gB ?_|refine gZ (fun x hx hu=>?_)|refine gY (fun x hx=>?_)|refine gE ?_|refine Both.mk ?_ ?_|refine gS (fun h=>?_) (fun h=>?_)|refine Spl.nt ?_|refine Spl.mk (fun h=>?_) (fun h=>?_))))
  all_goals first
   | exact bl_ff (by unfold RI; omega)
   | exact bl_tt (by unfold RI; omega)
   | refine again 3 ⟨by omega, by unfold RIu; omega⟩ (by dsimp only; omega) (And.intro rfl (And.intro rfl trivial)) (And.intro rfl trivial) rfl
 | 3, _, i2 =>
  (repeat' ((conv=>whnf);first|with_reducible refine gA ?_|refine CallE.con ⟨_, hn, ?_⟩ | with_reducible refine LoopS.unroll ti_ok 4 ?_|(with_reducible first|refine gB ?_|refine gZ (fun x hx hu=>?_)|refine gY (fun x hx=>?_)|refine gE ?_|refine Both.mk ?_ ?_|refine gS (fun h=>?_) (fun h=>?_)|refine Spl.nt ?_|refine Spl.mk (fun h=>?_) (fun h=>?_))))
  all_goals first
   | exact bl_ff (by unfold RI; omega)
   | exact bl_tt (by unfold RI; omega)
   | refine again 4 ⟨by omega, by unfold RIu; omega⟩ (by dsimp only; omega) (And.intro rfl (And.intro rfl trivial)) (And.intro rfl trivial) rfl
 | 4, _, i2 =>
  (repeat' ((conv=>whnf);first|with_reducible refine gA ?_|refine CallE.con ⟨_, hn, ?_⟩ | with_reducible refine LoopS.unroll ti_ok 4 ?_|(with_reducible first|refine gB ?_|refine gZ (fun x hx hu=>?_)|refine gY (fun x hx=>?_)|refine gE ?_|refine Both.mk ?_ ?_|refine gS (fun h=>?_) (fun h=>?_)|refine Spl.nt ?_|refine Spl.mk (fun h=>?_) (fun h=>?_))))
  all_goals first
   | exact bl_ff (by unfold RI; omega)
   | exact bl_tt (by unfold RI; omega)
   | refine again 5 ⟨by omega, by unfold RIu; omega⟩ (by dsimp only; omega) (And.intro rfl (And.intro rfl trivial)) (And.intro rfl trivial) rfl
end Go.Proofs.YthknbpijaoljgaaGreatDoor
namespace Go.Proofs.YthknbpijaoljgaaGreatDoor
open Go.Sy
def lenN (n : Nat) : Int := if n = 0 then 0 else if n = 1 then 1 else if n < 4 then 2 else 3
theorem len64_ok (n : Nat) (hn : n ≤ 4) : FnC Tryz.prog 195 [.d (.it .u64 n)] (.d (.it .i64 (lenN n))) := by
 refine FnC.intro ti_ok Tryz.func195 rfl Tryz.ntmps195 Tryz.call195 rfl (Nat.le_of_ble_eq_true rfl) rfl ?_
 match n, hn with
 | 0, _ =>
  (repeat' ((conv=>whnf);first|with_reducible refine gA ?_|refine at_lit (x := (0 : UInt8)) (by decide +kernel) (by decide +kernel) ?_ | with_reducible refine LetI.eq 0 (by with_unfolding_all exact rfl) ?_|(with_reducible first|refine gB ?_|refine gZ (fun x hx hu=>?_)|refine gY (fun x hx=>?_)|refine gE ?_|refine Both.mk ?_ ?_|refine gS (fun h=>?_) (fun h=>?_)|refine Spl.nt ?_|refine Spl.mk (fun h=>?_) (fun h=>?_))))
  with_unfolding_all exact rfl
 | 1, _ =>
  (repeat' ((conv=>whnf);first|with_reducible refine gA ?_|refine at_lit (x := (1 : UInt8)) (by decide +kernel) (by decide +kernel) ?_ | with_reducible refine LetI.eq 1 (by with_unfolding_all exact rfl) ?_|(with_reducible first|refine gB ?_|refine gZ (fun x hx hu=>?_)|refine gY (fun x hx=>?_)|refine gE ?_|refine Both.mk ?_ ?_|refine gS (fun h=>?_) (fun h=>?_)|refine Spl.nt ?_|refine Spl.mk (fun h=>?_) (fun h=>?_))))
  with_unfolding_all exact rfl
 | 2, _ =>
  (repeat' ((conv=>whnf);first|with_reducible refine gA ?_|refine at_lit (x := (2 : UInt8)) (by decide +kernel) (by decide +kernel) ?_ | with_reducible refine LetI.eq 2 (by with_unfolding_all exact rfl) ?_|(with_reducible first|refine gB ?_|refine gZ (fun x hx hu=>?_)|refine gY (fun x hx=>?_)|refine gE ?_|refine Both.mk ?_ ?_|refine gS (fun h=>?_) (fun h=>?_)|refine Spl.nt ?_|refine Spl.mk (fun h=>?_) (fun h=>?_))))
  with_unfolding_all exact rfl
 | 3, _ =>
  (repeat' ((conv=>whnf);first|with_reducible refine gA ?_|refine at_lit (x := (2 : UInt8)) (by decide +kernel) (by decide +kernel) ?_ | with_reducible refine LetI.eq 2 (by with_unfolding_all exact rfl) ?_|(with_reducible first|refine gB ?_|refine gZ (fun x hx hu=>?_)|refine gY (fun x hx=>?_)|refine gE ?_|refine Both.mk ?_ ?_|refine gS (fun h=>?_) (fun h=>?_)|refine Spl.nt ?_|refine Spl.mk (fun h=>?_) (fun h=>?_))))
  with_unfolding_all exact rfl
 | 4, _ =>
  (repeat' ((conv=>whnf);first|with_reducible refine gA ?_|refine at_lit (x := (3 : UInt8)) (by decide +kernel) (by decide +kernel) ?_ | with_reducible refine LetI.eq 3 (by with_unfolding_all exact rfl) ?_|(with_reducible first|refine gB ?_|refine gZ (fun x hx hu=>?_)|refine gY (fun x hx=>?_)|refine gE ?_|refine Both.mk ?_ ?_|refine gS (fun h=>?_) (fun h=>?_)|refine Spl.nt ?_|refine Spl.mk (fun h=>?_) (fun h=>?_))))
  with_unfolding_all exact rfl
theorem len_ok (n : Nat) (hn : n ≤ 4) : FnC Tryz.prog 172 [.d (.it .u64 n)] (.d (.it .i64 (lenN n))) := by
 refine FnC.intro ti_ok Tryz.func172 rfl Tryz.ntmps172 Tryz.call172 rfl (Nat.le_of_ble_eq_true rfl) rfl ?_
 have h := len64_ok n hn
 (repeat' ((conv=>whnf);first|with_reducible refine gA ?_|(refine CallE.con ⟨_, h, ?_⟩) | (refine CallP.mk ⟨_, h, ?_⟩)|(with_reducible first|refine gB ?_|refine gZ (fun x hx hu=>?_)|refine gY (fun x hx=>?_)|refine gE ?_|refine Both.mk ?_ ?_|refine gS (fun h=>?_) (fun h=>?_)|refine Spl.nt ?_|refine Spl.mk (fun h=>?_) (fun h=>?_))))
 rfl
end Go.Proofs.YthknbpijaoljgaaGreatDoor
namespace Go.Proofs.YthknbpijaoljgaaGreatDoor
open Go.Sy
def sortI (l : List Int) : List Int := l.mergeSort fun x y => decide (x ≤ y)
def vI (l : List Int) : List (List D) := l.map fun z => [.it .i64 z]
theorem sortI_ok (t : Nat) (fl : Bool) (zs : List Int) (h0 : 0 < zs.length) (hsz : zs.length < 4611686018427387904) : FnM Tryz.prog 159 true [.vx 1 0 0 zs.length] (.vec t 1 (vI zs) fl) (.vec t 1 (vI (sortI zs)) fl) (.tup []) :=
 FnM.ofRow (Value.int .i64) (fun z => .it .i64 z) (fun F x => .it _ _) (fun F x v h => by cases h; rfl) (m := none) (List.length_mergeSort _) h0 (fun q h => by cases h) Tryz.call159 (fun blk off cap w hH hb hc => (Tryz.slices_Sort_int blk off cap zs w hH hb hsz).mono fun e w' h => h)
theorem compactI_ok (t : Nat) (fl : Bool) (n : Nat) (zs : List Int) (hn : zs.length = n) (h0 : 0 < n) (hsz : n < 4611686018427387904) : FnM Tryz.prog 160 true [.vx 1 0 0 n] (.vec t 1 (vI zs) fl) (.vec t 1 (vI (Lib.compact zs ++ List.replicate (zs.length - (Lib.compact zs).length) 0)) fl) (.vx 1 0 0 (Lib.compact zs).length) := by
 subst hn
 exact FnM.ofRow (Value.int .i64) (fun z => .it .i64 z) (fun F x => .it _ _) (fun F x v h => by cases h; rfl) (m := some (Lib.compact zs).length) (by have := Lib.compact_length_le zs; simp; omega) h0 (fun q h => by cases h; exact Lib.compact_length_le zs) Tryz.call160 (fun blk off cap w hH hb hc => (Tryz.slices_Compact_int blk off cap zs w hH (by omega) hc).mono fun e w' ⟨h1, q, h2⟩ => ⟨h1, q, #[], by rw [Go.Sort.grow_empty]; exact h2⟩)
end Go.Proofs.YthknbpijaoljgaaGreatDoor
namespace Go.Proofs.YthknbpijaoljgaaGreatDoor
open Go.Sy
theorem ex_id {α : Type} {p : α → Prop} (h : ∃ x, p x) : ∃ x, p x := h
theorem _root_.Go.Sy.CallE.id {A B : Prop} (h : CallE A B) : CallE A B := h
theorem _root_.Go.Sy.CallI.id {P : Program} {N : Nat} {o : Oper} {σ : S} {f : Nat} {l : List AV} {K : S → Prop} (h : CallI P N o σ f l K) : CallI P N o σ f l K := h
def riT : Tr := (.cons 0 (.cons 1 (.cons 2 (.cons 3 (.cons 4 (.cons 5 (.cons 6 .nil .nil) .nil) .nil) .nil) .nil) (.cons 2 (.cons 1 (.cons 3 (.cons 4 (.cons 5 (.cons 6 .nil .nil) .nil) .nil) .nil) (.cons 3 (.cons 1 (.cons 4 (.cons 5 (.cons 6 .nil .nil) .nil) .nil) (.cons 4 (.cons 1 (.cons 5 (.cons 6 .nil .nil) .nil) .nil) .nil)) .nil)) .nil)) (.cons 2 (.cons 0 (.cons 1 (.cons 3 (.cons 4 (.cons 5 (.cons 6 .nil .nil) .nil) .nil) .nil) (.cons 3 (.cons 1 (.cons 4 (.cons 5 (.cons 6 .nil .nil) .nil) .nil) (.cons 4 (.cons 1 (.cons 5 (.cons 6 .nil .nil) .nil) .nil) .nil)) .nil)) (.cons 3 (.cons 0 (.cons 1 (.cons 4 (.cons 5 (.cons 6 .nil .nil) .nil) .nil) (.cons 4 (.cons 1 (.cons 5 (.cons 6 .nil .nil) .nil) .nil) .nil)) .nil) .nil)) .nil))
set_option maxHeartbeats 4000000 in
theorem ri1 (x : Ino) (hk : x.k = 1) (h1 : 0 ≤ x.z) (h2 : x.z ≤ 128) (hz : (x.z + 31) / 32 = 1) (hd : ((Lib.compact (sortI [x.b0])).length = 1 ↔ [x.b0].Nodup)) : FnC Tryz.prog 122 [.dg 6 (encI x)] (.d (.bl (decide (RI x)))) := by
 refine FnC.intro ti_ok Tryz.func122 rfl Tryz.ntmps122 Tryz.call122 rfl (Nat.le_of_ble_eq_true rfl) rfl ?_
 have hn := need_ok x.z h1 h2
 rw [hz] at hn
 (repeat' ((conv=>whnf);first|with_reducible refine gA ?_|((with_reducible refine ex_id ?_); refine ⟨[[.it .i64 x.b0]], ⟨by decide +kernel, rfl, by simp, rfl, by decide +kernel⟩, NilS.vec ⟨by with_unfolding_all exact rfl, ?_⟩⟩) | with_reducible refine draw_htree ti_ok mixed [0] riT (by decide +kernel) ?_ | with_reducible exact trivial | with_reducible refine Br.mk ?_ ?_ | ((with_reducible refine CallE.id ?_); first | (refine CallE.con ⟨_, hn, ?_⟩) | refine CallE.inl ?_) | ((with_reducible refine CallI.id ?_); first | with_reducible refine CallI.inl ti_ok i154 rfl ?_ | with_reducible refine CallI.inl ti_ok i157 rfl ?_ | with_reducible refine CallI.inl ti_ok i178 rfl ?_ | with_reducible refine CallI.inl ti_ok i156 rfl ?_ | with_reducible refine CallI.inl ti_ok i158 rfl ?_ | refine CallI.byM (sortI_ok _ _ [x.b0] (Nat.le_of_ble_eq_true rfl) (Nat.le_of_ble_eq_true rfl)) (by with_unfolding_all exact rfl) rfl ?_ | refine CallI.byM (compactI_ok _ _ 1 (sortI [x.b0]) (by simp [sortI]) (Nat.le_of_ble_eq_true rfl) (Nat.le_of_ble_eq_true rfl)) (by with_unfolding_all exact rfl) rfl ?_) | with_reducible refine LoopS.unroll ti_ok 5 ?_|(with_reducible first|refine gB ?_|refine gZ (fun x hx hu=>?_)|refine gY (fun x hx=>?_)|refine gE ?_|refine Both.mk ?_ ?_|refine gS (fun h=>?_) (fun h=>?_)|refine Spl.nt ?_|refine Spl.mk (fun h=>?_) (fun h=>?_))))
 all_goals try exact bl_ff (by unfold RI; omega)
 all_goals (conv => whnf)
 all_goals refine bl_dec (Iff.trans (show _ ↔ _ by omega) (hd.trans ?_))
 all_goals (unfold RI; simp only [List.nodup_cons, List.mem_cons, List.not_mem_nil, List.nodup_nil, not_or, or_false, false_or, not_false_eq_true, and_true, true_iff, List.nodup_nil, true_and]; omega)
set_option maxHeartbeats 4000000 in
theorem ri2 (x : Ino) (hk : x.k = 1) (h1 : 0 ≤ x.z) (h2 : x.z ≤ 128) (hz : (x.z + 31) / 32 = 2) (hd : ((Lib.compact (sortI [x.b0, x.b1])).length = 2 ↔ [x.b0, x.b1].Nodup)) : FnC Tryz.prog 122 [.dg 6 (encI x)] (.d (.bl (decide (RI x)))) := by
 refine FnC.intro ti_ok Tryz.func122 rfl Tryz.ntmps122 Tryz.call122 rfl (Nat.le_of_ble_eq_true rfl) rfl ?_
 have hn := need_ok x.z h1 h2
 rw [hz] at hn
 (repeat' ((conv=>whnf);first|with_reducible refine gA ?_|((with_reducible refine ex_id ?_); refine ⟨[[.it .i64 x.b0], [.it .i64 x.b1]], ⟨by decide +kernel, rfl, by simp, rfl, by decide +kernel⟩, NilS.vec ⟨by with_unfolding_all exact rfl, ?_⟩⟩) | with_reducible refine draw_htree ti_ok mixed [0] riT (by decide +kernel) ?_ | with_reducible exact trivial | with_reducible refine Br.mk ?_ ?_ | ((with_reducible refine CallE.id ?_); first | (refine CallE.con ⟨_, hn, ?_⟩) | refine CallE.inl ?_) | ((with_reducible refine CallI.id ?_); first | with_reducible refine CallI.inl ti_ok i154 rfl ?_ | with_reducible refine CallI.inl ti_ok i157 rfl ?_ | with_reducible refine CallI.inl ti_ok i178 rfl ?_ | with_reducible refine CallI.inl ti_ok i156 rfl ?_ | with_reducible refine CallI.inl ti_ok i158 rfl ?_ | refine CallI.byM (sortI_ok _ _ [x.b0, x.b1] (Nat.le_of_ble_eq_true rfl) (Nat.le_of_ble_eq_true rfl)) (by with_unfolding_all exact rfl) rfl ?_ | refine CallI.byM (compactI_ok _ _ 2 (sortI [x.b0, x.b1]) (by simp [sortI]) (Nat.le_of_ble_eq_true rfl) (Nat.le_of_ble_eq_true rfl)) (by with_unfolding_all exact rfl) rfl ?_) | with_reducible refine LoopS.unroll ti_ok 5 ?_|(with_reducible first|refine gB ?_|refine gZ (fun x hx hu=>?_)|refine gY (fun x hx=>?_)|refine gE ?_|refine Both.mk ?_ ?_|refine gS (fun h=>?_) (fun h=>?_)|refine Spl.nt ?_|refine Spl.mk (fun h=>?_) (fun h=>?_))))
 all_goals try exact bl_ff (by unfold RI; omega)
 all_goals (conv => whnf)
 all_goals refine bl_dec (Iff.trans (show _ ↔ _ by omega) (hd.trans ?_))
 all_goals (unfold RI; simp only [List.nodup_cons, List.mem_cons, List.not_mem_nil, List.nodup_nil, not_or, or_false, false_or, not_false_eq_true, and_true, true_iff, List.nodup_nil, true_and]; omega)
set_option maxHeartbeats 4000000 in
theorem ri3 (x : Ino) (hk : x.k = 1) (h1 : 0 ≤ x.z) (h2 : x.z ≤ 128) (hz : (x.z + 31) / 32 = 3) (hd : ((Lib.compact (sortI [x.b0, x.b1, x.b2])).length = 3 ↔ [x.b0, x.b1, x.b2].Nodup)) : FnC Tryz.prog 122 [.dg 6 (encI x)] (.d (.bl (decide (RI x)))) := by
 refine FnC.intro ti_ok Tryz.func122 rfl Tryz.ntmps122 Tryz.call122 rfl (Nat.le_of_ble_eq_true rfl) rfl ?_
 have hn := need_ok x.z h1 h2
 rw [hz] at hn
 (repeat' ((conv=>whnf);first|with_reducible refine gA ?_|((with_reducible refine ex_id ?_); refine ⟨[[.it .i64 x.b0], [.it .i64 x.b1], [.it .i64 x.b2]], ⟨by decide +kernel, rfl, by simp, rfl, by decide +kernel⟩, NilS.vec ⟨by with_unfolding_all exact rfl, ?_⟩⟩) | with_reducible refine draw_htree ti_ok mixed [0] riT (by decide +kernel) ?_ | with_reducible exact trivial | with_reducible refine Br.mk ?_ ?_ | ((with_reducible refine CallE.id ?_); first | (refine CallE.con ⟨_, hn, ?_⟩) | refine CallE.inl ?_) | ((with_reducible refine CallI.id ?_); first | with_reducible refine CallI.inl ti_ok i154 rfl ?_ | with_reducible refine CallI.inl ti_ok i157 rfl ?_ | with_reducible refine CallI.inl ti_ok i178 rfl ?_ | with_reducible refine CallI.inl ti_ok i156 rfl ?_ | with_reducible refine CallI.inl ti_ok i158 rfl ?_ | refine CallI.byM (sortI_ok _ _ [x.b0, x.b1, x.b2] (Nat.le_of_ble_eq_true rfl) (Nat.le_of_ble_eq_true rfl)) (by with_unfolding_all exact rfl) rfl ?_ | refine CallI.byM (compactI_ok _ _ 3 (sortI [x.b0, x.b1, x.b2]) (by simp [sortI]) (Nat.le_of_ble_eq_true rfl) (Nat.le_of_ble_eq_true rfl)) (by with_unfolding_all exact rfl) rfl ?_) | with_reducible refine LoopS.unroll ti_ok 5 ?_|(with_reducible first|refine gB ?_|refine gZ (fun x hx hu=>?_)|refine gY (fun x hx=>?_)|refine gE ?_|refine Both.mk ?_ ?_|refine gS (fun h=>?_) (fun h=>?_)|refine Spl.nt ?_|refine Spl.mk (fun h=>?_) (fun h=>?_))))
 all_goals try exact bl_ff (by unfold RI; omega)
 all_goals (conv => whnf)
 all_goals refine bl_dec (Iff.trans (show _ ↔ _ by omega) (hd.trans ?_))
 all_goals (unfold RI; simp only [List.nodup_cons, List.mem_cons, List.not_mem_nil, List.nodup_nil, not_or, or_false, false_or, not_false_eq_true, and_true, true_iff, List.nodup_nil, true_and]; omega)
set_option maxHeartbeats 4000000 in
theorem ri4 (x : Ino) (hk : x.k = 1) (h1 : 0 ≤ x.z) (h2 : x.z ≤ 128) (hz : (x.z + 31) / 32 = 4) (hd : ((Lib.compact (sortI [x.b0, x.b1, x.b2, x.b3])).length = 4 ↔ [x.b0, x.b1, x.b2, x.b3].Nodup)) : FnC Tryz.prog 122 [.dg 6 (encI x)] (.d (.bl (decide (RI x)))) := by
 refine FnC.intro ti_ok Tryz.func122 rfl Tryz.ntmps122 Tryz.call122 rfl (Nat.le_of_ble_eq_true rfl) rfl ?_
 have hn := need_ok x.z h1 h2
 rw [hz] at hn
 (repeat' ((conv=>whnf);first|with_reducible refine gA ?_|((with_reducible refine ex_id ?_); refine ⟨[[.it .i64 x.b0], [.it .i64 x.b1], [.it .i64 x.b2], [.it .i64 x.b3]], ⟨by decide +kernel, rfl, by simp, rfl, by decide +kernel⟩, NilS.vec ⟨by with_unfolding_all exact rfl, ?_⟩⟩) | with_reducible refine draw_htree ti_ok mixed [0] riT (by decide +kernel) ?_ | with_reducible exact trivial | with_reducible refine Br.mk ?_ ?_ | ((with_reducible refine CallE.id ?_); first | (refine CallE.con ⟨_, hn, ?_⟩) | refine CallE.inl ?_) | ((with_reducible refine CallI.id ?_); first | with_reducible refine CallI.inl ti_ok i154 rfl ?_ | with_reducible refine CallI.inl ti_ok i157 rfl ?_ | with_reducible refine CallI.inl ti_ok i178 rfl ?_ | with_reducible refine CallI.inl ti_ok i156 rfl ?_ | with_reducible refine CallI.inl ti_ok i158 rfl ?_ | refine CallI.byM (sortI_ok _ _ [x.b0, x.b1, x.b2, x.b3] (Nat.le_of_ble_eq_true rfl) (Nat.le_of_ble_eq_true rfl)) (by with_unfolding_all exact rfl) rfl ?_ | refine CallI.byM (compactI_ok _ _ 4 (sortI [x.b0, x.b1, x.b2, x.b3]) (by simp [sortI]) (Nat.le_of_ble_eq_true rfl) (Nat.le_of_ble_eq_true rfl)) (by with_unfolding_all exact rfl) rfl ?_) | with_reducible refine LoopS.unroll ti_ok 5 ?_|(with_reducible first|refine gB ?_|refine gZ (fun x hx hu=>?_)|refine gY (fun x hx=>?_)|refine gE ?_|refine Both.mk ?_ ?_|refine gS (fun h=>?_) (fun h=>?_)|refine Spl.nt ?_|refine Spl.mk (fun h=>?_) (fun h=>?_))))
 all_goals try exact bl_ff (by unfold RI; omega)
 all_goals (conv => whnf)
 all_goals refine bl_dec (Iff.trans (show _ ↔ _ by omega) (hd.trans ?_))
 all_goals (unfold RI; simp only [List.nodup_cons, List.mem_cons, List.not_mem_nil, List.nodup_nil, not_or, or_false, false_or, not_false_eq_true, and_true, true_iff, List.nodup_nil, true_and]; omega)
end Go.Proofs.YthknbpijaoljgaaGreatDoor
namespace Go.Proofs.YthknbpijaoljgaaGreatDoor
open Go.Sy
theorem sortI_len (l : List Int) : (sortI l).length = l.length := List.length_mergeSort _
theorem sortI_perm (l : List Int) : (sortI l).Perm l := List.mergeSort_perm _ _
theorem sortI_pw (l : List Int) : (sortI l).Pairwise (· ≤ ·) := by
 have := List.pairwise_mergeSort (le := fun x y : Int => decide (x ≤ y)) (fun a b c h1 h2 => by simp only [decide_eq_true_eq] at *; omega) (fun a b => by simp only [Bool.or_eq_true, decide_eq_true_eq]; omega) l
 exact this.imp fun h => by simpa using h
theorem compact_len {zs : List Int} (h : zs.Pairwise (· ≤ ·)) : (Lib.compact zs).length = zs.length ↔ zs.Nodup := by
 have e : (Lib.compact zs).length = zs.length ↔ ∀ j, j < zs.length → Lib.keeps zs.toArray j = true := by
  unfold Lib.compact Lib.compactUpTo
  rw [List.length_map]
  constructor
  ·intro hl j hj
   have hl2 : ((List.range zs.length).filter (Lib.keeps zs.toArray)).length = (List.range zs.length).length := by rw [hl, List.length_range]
   exact List.length_filter_eq_length_iff.1 hl2 j (List.mem_range.2 hj)
  ·intro hk
   rw [List.filter_eq_self.2 (fun j hj => hk j (List.mem_range.1 hj)), List.length_range]
 rw [e]
 have hle := List.pairwise_iff_getElem.1 h
 constructor
 ·intro hk
  refine List.pairwise_iff_getElem.2 fun i j hi hj hij => ?_
  have h1 := hk j hj
  simp only [Lib.keeps, decide_eq_true_eq] at h1
  have h2 : zs[j] ≠ zs[j - 1]'(by omega) := by
   rcases h1 with h1 | h1
   ·omega
   ·simpa [show j < zs.length from hj, show j - 1 < zs.length by omega] using h1
  have h3 := hle (j - 1) j (by omega) hj (by omega)
  by_cases h4 : i = j - 1
  ·subst h4; exact Ne.symm h2
  ·have h5 := hle i (j - 1) hi (by omega) (by omega)
   omega
 ·intro hn j hj
  simp only [Lib.keeps, decide_eq_true_eq]
  rcases Nat.eq_zero_or_pos j with h0 | h0
  ·exact .inl h0
  ·right
   have := List.pairwise_iff_getElem.1 hn (j - 1) j (by omega) hj (by omega)
   simpa [show j < zs.length from hj, show j - 1 < zs.length by omega] using Ne.symm this
theorem sorted_len (l : List Int) {n : Nat} (hl : l.length = n) : (Lib.compact (sortI l)).length = n ↔ l.Nodup := by
 rw [← hl, ← sortI_len l, compact_len (sortI_pw l)]
 exact (sortI_perm l).nodup_iff
theorem eqI6 (a b c d e f a' b' c' d' e' f' : Int) : eqDs [.it .i64 a, .it .i64 b, .it .i64 c, .it .i64 d, .it .i64 e, .it .i64 f] [.it .i64 a', .it .i64 b', .it .i64 c', .it .i64 d', .it .i64 e', .it .i64 f'] = decide (a = a' ∧ b = b' ∧ c = c' ∧ d = d' ∧ e = e' ∧ f = f') := by
 rw [Bool.eq_iff_iff]; simp [eqDs, eqD]
set_option maxHeartbeats 4000000 in
theorem riK (x : Ino) (hk : x.k ≠ 1 ∨ x.z < 0 ∨ 128 < x.z) : FnC Tryz.prog 122 [.dg 6 (encI x)] (.d (.bl (decide (RI x)))) := by
 refine FnC.intro ti_ok Tryz.func122 rfl Tryz.ntmps122 Tryz.call122 rfl (Nat.le_of_ble_eq_true rfl) rfl ?_
 (repeat' ((conv=>whnf);first|with_reducible refine gA ?_|(with_reducible first|refine gB ?_|refine gZ (fun x hx hu=>?_)|refine gY (fun x hx=>?_)|refine gE ?_|refine Both.mk ?_ ?_|refine gS (fun h=>?_) (fun h=>?_)|refine Spl.nt ?_|refine Spl.mk (fun h=>?_) (fun h=>?_))))
 all_goals first
  | exact bl_ff (by unfold RI; omega)
  | exact bl_tr (eqI6 _ _ _ _ _ _ _ _ _ _ _ _) (bl_dec (by unfold RI; omega))
set_option maxHeartbeats 4000000 in
theorem ri0 (x : Ino) (hk : x.k = 1) (h0 : x.z = 0) : FnC Tryz.prog 122 [.dg 6 (encI x)] (.d (.bl (decide (RI x)))) := by
 refine FnC.intro ti_ok Tryz.func122 rfl Tryz.ntmps122 Tryz.call122 rfl (Nat.le_of_ble_eq_true rfl) rfl ?_
 have hn := need_ok x.z (by omega) (by omega)
 rw [show (x.z + 31) / 32 = 0 by omega] at hn
 have hl := len_ok 0 (by decide)
 (repeat' ((conv=>whnf);first|with_reducible refine gA ?_|((with_reducible refine ex_id ?_); refine ⟨[], ⟨by decide +kernel, rfl, by simp, rfl, by decide +kernel⟩, NilS.vec ⟨by with_unfolding_all exact rfl, ?_⟩⟩) | with_reducible refine draw_htree ti_ok mixed [0] riT (by decide +kernel) ?_ | with_reducible exact trivial | with_reducible refine Br.mk ?_ ?_ | ((with_reducible refine CallE.id ?_); first | (refine CallE.con ⟨_, hn, ?_⟩) | (refine CallE.con ⟨_, hl, ?_⟩) | refine CallE.inl ?_) | ((with_reducible refine CallI.id ?_); first | with_reducible refine CallI.inl ti_ok i154 rfl ?_ | with_reducible refine CallI.inl ti_ok i157 rfl ?_ | with_reducible refine CallI.inl ti_ok i178 rfl ?_ | with_reducible refine CallI.inl ti_ok i156 rfl ?_ | with_reducible refine CallI.inl ti_ok i158 rfl ?_ | with_reducible refine CallI.inl ti_ok i159 rfl ?_ | with_reducible refine CallI.inl ti_ok i179 rfl ?_ | with_reducible refine CallI.inl ti_ok i199 rfl ?_ | with_reducible refine CallI.inl ti_ok i160 rfl ?_) | with_reducible refine LoopS.unroll ti_ok 5 ?_|(with_reducible first|refine gB ?_|refine gZ (fun x hx hu=>?_)|refine gY (fun x hx=>?_)|refine gE ?_|refine Both.mk ?_ ?_|refine gS (fun h=>?_) (fun h=>?_)|refine Spl.nt ?_|refine Spl.mk (fun h=>?_) (fun h=>?_))))
 all_goals first
  | exact bl_ff (by unfold RI; omega)
  | exact bl_tt (by unfold RI; omega)
theorem ri_ok (x : Ino) : FnC Tryz.prog 122 [.dg 6 (encI x)] (.d (.bl (decide (RI x)))) := by
 by_cases hk : x.k = 1 ∧ 0 ≤ x.z ∧ x.z ≤ 128
 ·obtain ⟨hk, h0, h1⟩ := hk
  rcases (by omega : x.z = 0 ∨ (x.z + 31) / 32 = 1 ∨ (x.z + 31) / 32 = 2 ∨ (x.z + 31) / 32 = 3 ∨ (x.z + 31) / 32 = 4) with h | h | h | h | h
  ·exact ri0 x hk h
  ·exact ri1 x hk h0 h1 h (sorted_len _ rfl)
  ·exact ri2 x hk h0 h1 h (sorted_len _ rfl)
  ·exact ri3 x hk h0 h1 h (sorted_len _ rfl)
  ·exact ri4 x hk h0 h1 h (sorted_len _ rfl)
 ·exact riK x (by omega)
end Go.Proofs.YthknbpijaoljgaaGreatDoor
namespace Go.Proofs.YthknbpijaoljgaaGreatDoor
open Go.Sy
def inoL (x : Ino) : List Int := [x.k, x.z, x.b0, x.b1, x.b2, x.b3, 0, 0, 0, 0, 0, 0, 0, 0, 0, 0, 0, 0, 0, 0, 0, 0, 0, 0, 0, 0, 0, 0, 0, 0, 0, 0]
def by8 (n : Int) : UInt8 := UInt8.ofNat n.toNat
def inoS (x : Ino) : List UInt8 := (inoL x).map by8
def encL (l : List Int) : List D := l.map (fun n => .it .u8 n)
theorem by8_ok {n : Int} (h : 0 ≤ n ∧ n < 256) : ((by8 n).toNat : Int) = n := by
 unfold by8
 rw [UInt8.toNat_ofNat']
 omega
theorem encL_S : ∀ {l : List Int}, (∀ n ∈ l, 0 ≤ n ∧ n < 256) → encL l = encS (l.map by8)
 | [], _ => rfl
 | n :: l, h => by
  show D.it .u8 n :: encL l = D.it .u8 (by8 n).toNat :: encS (l.map by8)
  rw [by8_ok (h n List.mem_cons_self), encL_S fun m hm => h m (List.mem_cons_of_mem _ hm)]
theorem RI_byte {x : Ino} (h : RI x) : ∀ n ∈ inoL x, 0 ≤ n ∧ n < 256 := by
 intro n hn
 unfold RI at h
 simp only [inoL, List.mem_cons, List.not_mem_nil, or_false] at hn
 omega
def inoR (x : Ino) : AV := if RI x then .tup [.dg 32 (encL (inoL x)), .d (.bl true)] else .tup [.dg 32 (encS zeroS), .d (.bl false)]
def inoT : Tr := (.cons 0 (.cons 1 (.cons 2 (.cons 3 (.cons 4 (.cons 5 (.cons 6 (.cons 7 (.cons 8 (.cons 9 .nil .nil) .nil) .nil) .nil) (.cons 6 (.cons 5 (.cons 7 (.cons 8 (.cons 9 .nil .nil) .nil) .nil) (.cons 7 (.cons 5 (.cons 8 (.cons 9 .nil .nil) .nil) .nil) .nil)) .nil)) (.cons 6 (.cons 4 (.cons 5 (.cons 7 (.cons 8 (.cons 9 .nil .nil) .nil) .nil) (.cons 7 (.cons 5 (.cons 8 (.cons 9 .nil .nil) .nil) .nil) .nil)) (.cons 7 (.cons 4 (.cons 5 (.cons 8 (.cons 9 .nil .nil) .nil) .nil) .nil) .nil)) .nil)) (.cons 6 (.cons 3 (.cons 4 (.cons 5 (.cons 7 (.cons 8 (.cons 9 .nil .nil) .nil) .nil) (.cons 7 (.cons 5 (.cons 8 (.cons 9 .nil .nil) .nil) .nil) .nil)) (.cons 7 (.cons 4 (.cons 5 (.cons 8 (.cons 9 .nil .nil) .nil) .nil) .nil) .nil)) (.cons 7 (.cons 3 (.cons 4 (.cons 5 (.cons 8 (.cons 9 .nil .nil) .nil) .nil) .nil) .nil) .nil)) .nil)) (.cons 3 (.cons 2 (.cons 4 (.cons 5 (.cons 6 (.cons 7 (.cons 8 (.cons 9 .nil .nil) .nil) .nil) .nil) (.cons 6 (.cons 5 (.cons 7 (.cons 8 (.cons 9 .nil .nil) .nil) .nil) (.cons 7 (.cons 5 (.cons 8 (.cons 9 .nil .nil) .nil) .nil) .nil)) .nil)) (.cons 6 (.cons 4 (.cons 5 (.cons 7 (.cons 8 (.cons 9 .nil .nil) .nil) .nil) (.cons 7 (.cons 5 (.cons 8 (.cons 9 .nil .nil) .nil) .nil) .nil)) (.cons 7 (.cons 4 (.cons 5 (.cons 8 (.cons 9 .nil .nil) .nil) .nil) .nil) .nil)) .nil)) (.cons 4 (.cons 2 (.cons 5 (.cons 6 (.cons 7 (.cons 8 (.cons 9 .nil .nil) .nil) .nil) .nil) (.cons 6 (.cons 5 (.cons 7 (.cons 8 (.cons 9 .nil .nil) .nil) .nil) (.cons 7 (.cons 5 (.cons 8 (.cons 9 .nil .nil) .nil) .nil) .nil)) .nil)) (.cons 5 (.cons 2 (.cons 6 (.cons 7 (.cons 8 (.cons 9 .nil .nil) .nil) .nil) .nil) .nil) .nil)) .nil)) .nil)) (.cons 3 (.cons 1 (.cons 2 (.cons 4 (.cons 5 (.cons 6 (.cons 7 (.cons 8 (.cons 9 .nil .nil) .nil) .nil) .nil) (.cons 6 (.cons 5 (.cons 7 (.cons 8 (.cons 9 .nil .nil) .nil) .nil) (.cons 7 (.cons 5 (.cons 8 (.cons 9 .nil .nil) .nil) .nil) .nil)) .nil)) (.cons 6 (.cons 4 (.cons 5 (.cons 7 (.cons 8 (.cons 9 .nil .nil) .nil) .nil) (.cons 7 (.cons 5 (.cons 8 (.cons 9 .nil .nil) .nil) .nil) .nil)) (.cons 7 (.cons 4 (.cons 5 (.cons 8 (.cons 9 .nil .nil) .nil) .nil) .nil) .nil)) .nil)) (.cons 4 (.cons 2 (.cons 5 (.cons 6 (.cons 7 (.cons 8 (.cons 9 .nil .nil) .nil) .nil) .nil) (.cons 6 (.cons 5 (.cons 7 (.cons 8 (.cons 9 .nil .nil) .nil) .nil) (.cons 7 (.cons 5 (.cons 8 (.cons 9 .nil .nil) .nil) .nil) .nil)) .nil)) (.cons 5 (.cons 2 (.cons 6 (.cons 7 (.cons 8 (.cons 9 .nil .nil) .nil) .nil) .nil) .nil) .nil)) .nil)) (.cons 4 (.cons 1 (.cons 2 (.cons 5 (.cons 6 (.cons 7 (.cons 8 (.cons 9 .nil .nil) .nil) .nil) .nil) (.cons 6 (.cons 5 (.cons 7 (.cons 8 (.cons 9 .nil .nil) .nil) .nil) (.cons 7 (.cons 5 (.cons 8 (.cons 9 .nil .nil) .nil) .nil) .nil)) .nil)) (.cons 5 (.cons 2 (.cons 6 (.cons 7 (.cons 8 (.cons 9 .nil .nil) .nil) .nil) .nil) .nil) .nil)) (.cons 5 (.cons 1 (.cons 2 (.cons 6 (.cons 7 (.cons 8 (.cons 9 .nil .nil) .nil) .nil) .nil) .nil) .nil) .nil)) .nil)) .nil)) (.cons 3 (.cons 0 (.cons 1 (.cons 2 (.cons 4 (.cons 5 (.cons 6 (.cons 7 (.cons 8 (.cons 9 .nil .nil) .nil) .nil) .nil) (.cons 6 (.cons 5 (.cons 7 (.cons 8 (.cons 9 .nil .nil) .nil) .nil) (.cons 7 (.cons 5 (.cons 8 (.cons 9 .nil .nil) .nil) .nil) .nil)) .nil)) (.cons 6 (.cons 4 (.cons 5 (.cons 7 (.cons 8 (.cons 9 .nil .nil) .nil) .nil) (.cons 7 (.cons 5 (.cons 8 (.cons 9 .nil .nil) .nil) .nil) .nil)) (.cons 7 (.cons 4 (.cons 5 (.cons 8 (.cons 9 .nil .nil) .nil) .nil) .nil) .nil)) .nil)) (.cons 4 (.cons 2 (.cons 5 (.cons 6 (.cons 7 (.cons 8 (.cons 9 .nil .nil) .nil) .nil) .nil) (.cons 6 (.cons 5 (.cons 7 (.cons 8 (.cons 9 .nil .nil) .nil) .nil) (.cons 7 (.cons 5 (.cons 8 (.cons 9 .nil .nil) .nil) .nil) .nil)) .nil)) (.cons 5 (.cons 2 (.cons 6 (.cons 7 (.cons 8 (.cons 9 .nil .nil) .nil) .nil) .nil) .nil) .nil)) .nil)) (.cons 4 (.cons 1 (.cons 2 (.cons 5 (.cons 6 (.cons 7 (.cons 8 (.cons 9 .nil .nil) .nil) .nil) .nil) (.cons 6 (.cons 5 (.cons 7 (.cons 8 (.cons 9 .nil .nil) .nil) .nil) (.cons 7 (.cons 5 (.cons 8 (.cons 9 .nil .nil) .nil) .nil) .nil)) .nil)) (.cons 5 (.cons 2 (.cons 6 (.cons 7 (.cons 8 (.cons 9 .nil .nil) .nil) .nil) .nil) .nil) .nil)) (.cons 5 (.cons 1 (.cons 2 (.cons 6 (.cons 7 (.cons 8 (.cons 9 .nil .nil) .nil) .nil) .nil) .nil) .nil) .nil)) .nil)) (.cons 4 (.cons 0 (.cons 1 (.cons 2 (.cons 5 (.cons 6 (.cons 7 (.cons 8 (.cons 9 .nil .nil) .nil) .nil) .nil) (.cons 6 (.cons 5 (.cons 7 (.cons 8 (.cons 9 .nil .nil) .nil) .nil) (.cons 7 (.cons 5 (.cons 8 (.cons 9 .nil .nil) .nil) .nil) .nil)) .nil)) (.cons 5 (.cons 2 (.cons 6 (.cons 7 (.cons 8 (.cons 9 .nil .nil) .nil) .nil) .nil) .nil) .nil)) (.cons 5 (.cons 1 (.cons 2 (.cons 6 (.cons 7 (.cons 8 (.cons 9 .nil .nil) .nil) .nil) .nil) .nil) .nil) .nil)) (.cons 5 (.cons 0 (.cons 1 (.cons 2 (.cons 6 (.cons 7 (.cons 8 (.cons 9 .nil .nil) .nil) .nil) .nil) .nil) .nil) .nil) .nil)) .nil)) .nil))
set_option maxHeartbeats 4000000 in
theorem ino_ok (x : Ino) : FnC Tryz.prog 84 [.dg 6 (encI x)] (inoR x) := by
 have hr := ri_ok x
 unfold inoR
 by_cases h : RI x
 ·rw [if_pos h]
  rw [decide_eq_true h] at hr
  have hb := RI_byte h
  have b0 := hb x.k (by simp [inoL])
  have b1 := hb x.z (by simp [inoL])
  have b2 := hb x.b0 (by simp [inoL])
  have b3 := hb x.b1 (by simp [inoL])
  have b4 := hb x.b2 (by simp [inoL])
  have b5 := hb x.b3 (by simp [inoL])
  clear hb
  refine FnC.intro ti_ok Tryz.func84 rfl Tryz.ntmps84 Tryz.call84 rfl (Nat.le_of_ble_eq_true rfl) rfl ?_
  (repeat' ((conv=>whnf);first|with_reducible refine gA ?_|((with_reducible refine CallE.id ?_); (refine CallE.con ⟨_, hr, ?_⟩)) | with_reducible refine AtA.mk' ?_|(with_reducible first|refine gB ?_|refine gZ (fun x hx hu=>?_)|refine gY (fun x hx=>?_)|refine gE ?_|refine Both.mk ?_ ?_|refine gS (fun h=>?_) (fun h=>?_)|refine Spl.nt ?_|refine Spl.mk (fun h=>?_) (fun h=>?_))))
  refine DrawS.join ⟨[(1, .ptr 0 0), (2, .ptr 1 0), (3, .d (.bl false)), (4, .ptr 2 0)], [(0, .cells 6 ((encI x).map .d)), (1, .cells 32 ((encS zeroS).map .d)), (2, .cells 32 ((encL (x.k :: x.z :: List.replicate 30 0)).map .d))], 3⟩ (draw_htree ti_ok mixed [] inoT (by decide +kernel) ?_) ?_
  ·(repeat' ((conv=>whnf);first|with_reducible refine gA ?_|with_reducible refine Br.mk ?_ ?_ | with_reducible exact trivial|(with_reducible first|refine gB ?_|refine gZ (fun x hx hu=>?_)|refine gY (fun x hx=>?_)|refine gE ?_|refine Both.mk ?_ ?_|refine gS (fun h=>?_) (fun h=>?_)|refine Spl.nt ?_|refine Spl.mk (fun h=>?_) (fun h=>?_))))
   all_goals exact Wk.en ⟨And.intro rfl (And.intro rfl (And.intro rfl (And.intro rfl trivial))), And.intro rfl (And.intro rfl (And.intro rfl trivial)), rfl⟩
  (repeat' ((conv=>whnf);first|with_reducible refine gA ?_|with_reducible refine LoopS.unroll ti_ok 5 ?_ | with_reducible refine AtA.mk' ?_|(with_reducible first|refine gB ?_|refine gZ (fun x hx hu=>?_)|refine gY (fun x hx=>?_)|refine gE ?_|refine Both.mk ?_ ?_|refine gS (fun h=>?_) (fun h=>?_)|refine Spl.nt ?_|refine Spl.mk (fun h=>?_) (fun h=>?_))))
  all_goals rfl
 ·rw [if_neg h]
  rw [decide_eq_false h] at hr
  refine FnC.intro ti_ok Tryz.func84 rfl Tryz.ntmps84 Tryz.call84 rfl (Nat.le_of_ble_eq_true rfl) rfl ?_
  (repeat' ((conv=>whnf);first|with_reducible refine gA ?_|((with_reducible refine CallE.id ?_); (refine CallE.con ⟨_, hr, ?_⟩)) | with_reducible refine AtA.mk' ?_|(with_reducible first|refine gB ?_|refine gZ (fun x hx hu=>?_)|refine gY (fun x hx=>?_)|refine gE ?_|refine Both.mk ?_ ?_|refine gS (fun h=>?_) (fun h=>?_)|refine Spl.nt ?_|refine Spl.mk (fun h=>?_) (fun h=>?_))))
  all_goals rfl
end Go.Proofs.YthknbpijaoljgaaGreatDoor
namespace Go.Proofs.YthknbpijaoljgaaGreatDoor
open Go.Sy
def inoOfR (s : List UInt8) : Ino := ⟨(s.getD 0 0).toNat, (s.getD 1 0).toNat, (s.getD 2 0).toNat, (s.getD 3 0).toNat, (s.getD 4 0).toNat, (s.getD 5 0).toNat⟩
def ino0 : Ino := ⟨0, 0, 0, 0, 0, 0⟩
def inoOfV (s : List UInt8) : AV := if RI (inoOfR s) ∧ s = inoS (inoOfR s) then .tup [.dg 6 (encI (inoOfR s)), .d (.bl true)] else .tup [.dg 6 (encI ino0), .d (.bl false)]
theorem byte_at {s : List UInt8} (hs : s.length = 32) (k : Nat) (hk : k < 32) : s[k]? = some (s.getD k 0) := by
 rw [List.getD_eq_getElem?_getD, List.getElem?_eq_getElem (by omega)]; rfl
set_option maxHeartbeats 4000000 in
theorem inoOf_ok (s : List UInt8) (hs : s.length = 32) : FnC Tryz.prog 109 [.dg 32 (encS s)] (inoOfV s) := by
 have hi := ino_ok (inoOfR s)
 unfold inoOfV
 have c0 := (s.getD 0 0).toNat_lt
 have c1 := (s.getD 1 0).toNat_lt
 have c2 := (s.getD 2 0).toNat_lt
 have c3 := (s.getD 3 0).toNat_lt
 have c4 := (s.getD 4 0).toNat_lt
 have c5 := (s.getD 5 0).toNat_lt
 by_cases h : RI (inoOfR s)
 ·rw [inoR, if_pos h, encL_S (RI_byte h)] at hi
  have hil : (inoS (inoOfR s)).length = 32 := rfl
  have he := eqS s (inoS (inoOfR s)) hs
  by_cases h2 : s = inoS (inoOfR s)
  ·rw [decide_eq_true h2] at he
   rw [if_pos ⟨h, h2⟩]
   refine FnC.intro ti_ok Tryz.func109 rfl Tryz.ntmps109 Tryz.call109 rfl (Nat.le_of_ble_eq_true rfl) rfl ?_
   (repeat' ((conv=>whnf);first|with_reducible refine gA ?_|((with_reducible refine CallE.id ?_); (refine CallE.con ⟨_, hi, ?_⟩)) | with_reducible refine LoopS.unroll ti_ok 5 ?_ | refine AtA.eq (ld_byte rfl (byte_at hs 0 (by decide))) ?_ | refine AtA.eq (ld_byte rfl (byte_at hs 1 (by decide))) ?_ | refine AtA.eq (ld_byte rfl (byte_at hs 2 (by decide))) ?_ | refine AtA.eq (ld_byte rfl (byte_at hs 3 (by decide))) ?_ | refine AtA.eq (ld_byte rfl (byte_at hs 4 (by decide))) ?_ | refine AtA.eq (ld_byte rfl (byte_at hs 5 (by decide))) ?_ | refine AtA.eq (ld_sec rfl rfl hs) ?_ | refine AtA.eq (ld_sec rfl rfl hil) ?_ | refine cond_tt (likeSS _ _ hs hil) ?_|(with_reducible first|refine gB ?_|refine gZ (fun x hx hu=>?_)|refine gY (fun x hx=>?_)|refine gE ?_|refine Both.mk ?_ ?_|refine gS (fun h=>?_) (fun h=>?_)|refine Spl.nt ?_|refine Spl.mk (fun h=>?_) (fun h=>?_))))
   all_goals rfl
  ·rw [decide_eq_false h2] at he
   rw [if_neg (fun q => h2 q.2)]
   refine FnC.intro ti_ok Tryz.func109 rfl Tryz.ntmps109 Tryz.call109 rfl (Nat.le_of_ble_eq_true rfl) rfl ?_
   (repeat' ((conv=>whnf);first|with_reducible refine gA ?_|((with_reducible refine CallE.id ?_); (refine CallE.con ⟨_, hi, ?_⟩)) | with_reducible refine LoopS.unroll ti_ok 5 ?_ | refine AtA.eq (ld_byte rfl (byte_at hs 0 (by decide))) ?_ | refine AtA.eq (ld_byte rfl (byte_at hs 1 (by decide))) ?_ | refine AtA.eq (ld_byte rfl (byte_at hs 2 (by decide))) ?_ | refine AtA.eq (ld_byte rfl (byte_at hs 3 (by decide))) ?_ | refine AtA.eq (ld_byte rfl (byte_at hs 4 (by decide))) ?_ | refine AtA.eq (ld_byte rfl (byte_at hs 5 (by decide))) ?_ | refine AtA.eq (ld_sec rfl rfl hs) ?_ | refine AtA.eq (ld_sec rfl rfl hil) ?_ | refine cond_tt (likeSS _ _ hs hil) ?_|(with_reducible first|refine gB ?_|refine gZ (fun x hx hu=>?_)|refine gY (fun x hx=>?_)|refine gE ?_|refine Both.mk ?_ ?_|refine gS (fun h=>?_) (fun h=>?_)|refine Spl.nt ?_|refine Spl.mk (fun h=>?_) (fun h=>?_))))
   all_goals rfl
 ·rw [inoR, if_neg h] at hi
  have hil : zeroS.length = 32 := rfl
  rw [if_neg (fun q => h q.1)]
  refine FnC.intro ti_ok Tryz.func109 rfl Tryz.ntmps109 Tryz.call109 rfl (Nat.le_of_ble_eq_true rfl) rfl ?_
  (repeat' ((conv=>whnf);first|with_reducible refine gA ?_|((with_reducible refine CallE.id ?_); (refine CallE.con ⟨_, hi, ?_⟩)) | with_reducible refine LoopS.unroll ti_ok 5 ?_ | refine AtA.eq (ld_byte rfl (byte_at hs 0 (by decide))) ?_ | refine AtA.eq (ld_byte rfl (byte_at hs 1 (by decide))) ?_ | refine AtA.eq (ld_byte rfl (byte_at hs 2 (by decide))) ?_ | refine AtA.eq (ld_byte rfl (byte_at hs 3 (by decide))) ?_ | refine AtA.eq (ld_byte rfl (byte_at hs 4 (by decide))) ?_ | refine AtA.eq (ld_byte rfl (byte_at hs 5 (by decide))) ?_ | refine AtA.eq (ld_sec rfl rfl hs) ?_ | refine AtA.eq (ld_sec rfl rfl hil) ?_ | refine cond_tt (likeSS _ _ hs hil) ?_|(with_reducible first|refine gB ?_|refine gZ (fun x hx hu=>?_)|refine gY (fun x hx=>?_)|refine gE ?_|refine Both.mk ?_ ?_|refine gS (fun h=>?_) (fun h=>?_)|refine Spl.nt ?_|refine Spl.mk (fun h=>?_) (fun h=>?_))))
  all_goals rfl
end Go.Proofs.YthknbpijaoljgaaGreatDoor
namespace Go.Proofs.YthknbpijaoljgaaGreatDoor
open Go.Sy
set_option maxHeartbeats 4000000 in
theorem refIno_ok (x : Ino) : FnC Tryz.prog 44 [.dg 6 (encI x)] (inoR x) := by
 have hr := refRI_ok x
 unfold inoR
 by_cases h : RI x
 ·rw [if_pos h]
  rw [decide_eq_true h] at hr
  have hb := RI_byte h
  have b0 := hb x.k (by simp [inoL])
  have b1 := hb x.z (by simp [inoL])
  have b2 := hb x.b0 (by simp [inoL])
  have b3 := hb x.b1 (by simp [inoL])
  have b4 := hb x.b2 (by simp [inoL])
  have b5 := hb x.b3 (by simp [inoL])
  clear hb
  refine FnC.intro ti_ok Tryz.func44 rfl Tryz.ntmps44 Tryz.call44 rfl (Nat.le_of_ble_eq_true rfl) rfl ?_
  (repeat' ((conv=>whnf);first|with_reducible refine gA ?_|((with_reducible refine CallE.id ?_); (refine CallE.con ⟨_, hr, ?_⟩)) | with_reducible refine LoopS.unroll ti_ok 5 ?_ | with_reducible refine AtA.mk' ?_|(with_reducible first|refine gB ?_|refine gZ (fun x hx hu=>?_)|refine gY (fun x hx=>?_)|refine gE ?_|refine Both.mk ?_ ?_|refine gS (fun h=>?_) (fun h=>?_)|refine Spl.nt ?_|refine Spl.mk (fun h=>?_) (fun h=>?_))))
  all_goals rfl
 ·rw [if_neg h]
  rw [decide_eq_false h] at hr
  refine FnC.intro ti_ok Tryz.func44 rfl Tryz.ntmps44 Tryz.call44 rfl (Nat.le_of_ble_eq_true rfl) rfl ?_
  (repeat' ((conv=>whnf);first|with_reducible refine gA ?_|((with_reducible refine CallE.id ?_); (refine CallE.con ⟨_, hr, ?_⟩)) | with_reducible refine AtA.mk' ?_|(with_reducible first|refine gB ?_|refine gZ (fun x hx hu=>?_)|refine gY (fun x hx=>?_)|refine gE ?_|refine Both.mk ?_ ?_|refine gS (fun h=>?_) (fun h=>?_)|refine Spl.nt ?_|refine Spl.mk (fun h=>?_) (fun h=>?_))))
  all_goals rfl
set_option maxHeartbeats 4000000 in
theorem refInoOf_ok (s : List UInt8) (hs : s.length = 32) : FnC Tryz.prog 92 [.dg 32 (encS s)] (inoOfV s) := by
 have hi := refIno_ok (inoOfR s)
 unfold inoOfV
 have c0 := (s.getD 0 0).toNat_lt
 have c1 := (s.getD 1 0).toNat_lt
 have c2 := (s.getD 2 0).toNat_lt
 have c3 := (s.getD 3 0).toNat_lt
 have c4 := (s.getD 4 0).toNat_lt
 have c5 := (s.getD 5 0).toNat_lt
 by_cases h : RI (inoOfR s)
 ·rw [inoR, if_pos h, encL_S (RI_byte h)] at hi
  have hil : (inoS (inoOfR s)).length = 32 := rfl
  have he := eqS (inoS (inoOfR s)) s hs.symm
  by_cases h2 : s = inoS (inoOfR s)
  ·rw [decide_eq_true h2.symm] at he
   rw [if_pos ⟨h, h2⟩]
   refine FnC.intro ti_ok Tryz.func92 rfl Tryz.ntmps92 Tryz.call92 rfl (Nat.le_of_ble_eq_true rfl) rfl ?_
   (repeat' ((conv=>whnf);first|with_reducible refine gA ?_|((with_reducible refine CallE.id ?_); (refine CallE.con ⟨_, hi, ?_⟩)) | with_reducible refine LoopS.unroll ti_ok 5 ?_ | refine AtA.eq (ld_byte rfl (byte_at hs 0 (by decide))) ?_ | refine AtA.eq (ld_byte rfl (byte_at hs 1 (by decide))) ?_ | refine AtA.eq (ld_byte rfl (byte_at hs 2 (by decide))) ?_ | refine AtA.eq (ld_byte rfl (byte_at hs 3 (by decide))) ?_ | refine AtA.eq (ld_byte rfl (byte_at hs 4 (by decide))) ?_ | refine AtA.eq (ld_byte rfl (byte_at hs 5 (by decide))) ?_ | refine AtA.eq (ld_sec rfl rfl hs) ?_ | refine AtA.eq (ld_sec rfl rfl hil) ?_ | refine cond_tt (likeSS _ _ hil hs) ?_|(with_reducible first|refine gB ?_|refine gZ (fun x hx hu=>?_)|refine gY (fun x hx=>?_)|refine gE ?_|refine Both.mk ?_ ?_|refine gS (fun h=>?_) (fun h=>?_)|refine Spl.nt ?_|refine Spl.mk (fun h=>?_) (fun h=>?_))))
   all_goals rfl
  ·rw [decide_eq_false (Ne.symm h2)] at he
   rw [if_neg (fun q => h2 q.2)]
   refine FnC.intro ti_ok Tryz.func92 rfl Tryz.ntmps92 Tryz.call92 rfl (Nat.le_of_ble_eq_true rfl) rfl ?_
   (repeat' ((conv=>whnf);first|with_reducible refine gA ?_|((with_reducible refine CallE.id ?_); (refine CallE.con ⟨_, hi, ?_⟩)) | with_reducible refine LoopS.unroll ti_ok 5 ?_ | refine AtA.eq (ld_byte rfl (byte_at hs 0 (by decide))) ?_ | refine AtA.eq (ld_byte rfl (byte_at hs 1 (by decide))) ?_ | refine AtA.eq (ld_byte rfl (byte_at hs 2 (by decide))) ?_ | refine AtA.eq (ld_byte rfl (byte_at hs 3 (by decide))) ?_ | refine AtA.eq (ld_byte rfl (byte_at hs 4 (by decide))) ?_ | refine AtA.eq (ld_byte rfl (byte_at hs 5 (by decide))) ?_ | refine AtA.eq (ld_sec rfl rfl hs) ?_ | refine AtA.eq (ld_sec rfl rfl hil) ?_ | refine cond_tt (likeSS _ _ hil hs) ?_|(with_reducible first|refine gB ?_|refine gZ (fun x hx hu=>?_)|refine gY (fun x hx=>?_)|refine gE ?_|refine Both.mk ?_ ?_|refine gS (fun h=>?_) (fun h=>?_)|refine Spl.nt ?_|refine Spl.mk (fun h=>?_) (fun h=>?_))))
   all_goals rfl
 ·rw [inoR, if_neg h] at hi
  have hil : zeroS.length = 32 := rfl
  rw [if_neg (fun q => h q.1)]
  refine FnC.intro ti_ok Tryz.func92 rfl Tryz.ntmps92 Tryz.call92 rfl (Nat.le_of_ble_eq_true rfl) rfl ?_
  (repeat' ((conv=>whnf);first|with_reducible refine gA ?_|((with_reducible refine CallE.id ?_); (refine CallE.con ⟨_, hi, ?_⟩)) | with_reducible refine LoopS.unroll ti_ok 5 ?_ | refine AtA.eq (ld_byte rfl (byte_at hs 0 (by decide))) ?_ | refine AtA.eq (ld_byte rfl (byte_at hs 1 (by decide))) ?_ | refine AtA.eq (ld_byte rfl (byte_at hs 2 (by decide))) ?_ | refine AtA.eq (ld_byte rfl (byte_at hs 3 (by decide))) ?_ | refine AtA.eq (ld_byte rfl (byte_at hs 4 (by decide))) ?_ | refine AtA.eq (ld_byte rfl (byte_at hs 5 (by decide))) ?_ | refine AtA.eq (ld_sec rfl rfl hs) ?_ | refine AtA.eq (ld_sec rfl rfl hil) ?_ | refine cond_tt (likeSS _ _ hil hs) ?_|(with_reducible first|refine gB ?_|refine gZ (fun x hx hu=>?_)|refine gY (fun x hx=>?_)|refine gE ?_|refine Both.mk ?_ ?_|refine gS (fun h=>?_) (fun h=>?_)|refine Spl.nt ?_|refine Spl.mk (fun h=>?_) (fun h=>?_))))
  all_goals rfl
end Go.Proofs.YthknbpijaoljgaaGreatDoor
namespace Go.Proofs.YthknbpijaoljgaaGreatDoor
open Go.Sy
def entNm (s : List UInt8) : List UInt8 := if (s.getD 3 0).toNat ≤ 16 then (s.drop 16).take (s.getD 3 0).toNat else []
def entOfR (s : List UInt8) : Ent := ⟨true, (s.getD 1 0).toNat, entNm s, (s.getD 2 0).toNat⟩
def ent0 : Ent := ⟨false, 0, [], 0⟩
def isEnt (s : List UInt8) : Prop := RE (entOfR s) ∧ s = entS (entOfR s)
instance (s : List UInt8) : Decidable (isEnt s) := by unfold isEnt; infer_instance
def entOf (s : List UInt8) : Ent := if isEnt s then entOfR s else ent0
def entOk (s : List UInt8) : Bool := decide (s = zeroS ∨ isEnt s)
def entOfV (s : List UInt8) : AV := .tup [.dg 4 (encE (entOf s)), .d (.bl (entOk s))]
theorem zero_not : ¬ isEnt zeroS := by
 intro h
 have h1 := h.1
 unfold RE entOfR at h1
 rcases h1 with h1 | h1
 ·cases h1.1
 ·have : (1:Int) ≤ ((zeroS.getD 2 0).toNat : Int) := h1.2.2.2.1
  revert this; decide
set_option maxHeartbeats 4000000 in
theorem entOf_ok (s : List UInt8) (hs : s.length = 32) : FnC Tryz.prog 123 [.dg 32 (encS s)] (entOfV s) := by
 have hz := zero_ok s hs
 have c1 := (s.getD 1 0).toNat_lt
 have c2 := (s.getD 2 0).toNat_lt
 have c3 := (s.getD 3 0).toNat_lt
 have hc := cut_ok s hs (s.getD 3 0).toNat (by omega)
 have he := ent_ok (entOfR s)
 unfold entOfV
 by_cases h0 : s = zeroS
 ·subst h0
  rw [decide_eq_true rfl] at hz
  rw [show entOf zeroS = ent0 from if_neg zero_not, show entOk zeroS = true from decide_eq_true (.inl rfl)]
  refine FnC.intro ti_ok Tryz.func123 rfl Tryz.ntmps123 Tryz.call123 rfl (Nat.le_of_ble_eq_true rfl) rfl ?_
  (repeat' ((conv=>whnf);first|with_reducible refine gA ?_|((with_reducible refine callE_id ?_); (refine CallE.con ⟨_, hz, ?_⟩)) | with_reducible refine AtA.mk' ?_|(with_reducible first|refine gB ?_|refine gZ (fun x hx hu=>?_)|refine gY (fun x hx=>?_)|refine gE ?_|refine Both.mk ?_ ?_|refine gS (fun h=>?_) (fun h=>?_)|refine Spl.nt ?_|refine Spl.mk (fun h=>?_) (fun h=>?_))))
  all_goals rfl
 rw [decide_eq_false h0] at hz
 have hEq : encE (entOfR s) = [.bl true, .it .i64 (s.getD 1 0).toNat, .st (entNm s), .it .i64 (s.getD 2 0).toNat] := rfl
 by_cases h1 : RE (entOfR s)
 ·have hel := entS_len _ h1
  rw [entR, if_pos h1] at he
  have heq := eqS s (entS (entOfR s)) (by rw [hs, hel])
  by_cases h2 : s = entS (entOfR s)
  ·rw [show entOf s = entOfR s from if_pos ⟨h1, h2⟩, show entOk s = true from decide_eq_true (.inr ⟨h1, h2⟩)]
   rw [decide_eq_true h2] at heq
   refine FnC.intro ti_ok Tryz.func123 rfl Tryz.ntmps123 Tryz.call123 rfl (Nat.le_of_ble_eq_true rfl) rfl ?_
   (repeat' ((conv=>whnf);first|with_reducible refine gA ?_|((with_reducible refine callE_id ?_); first | (refine CallE.con ⟨_, hz, ?_⟩) | (refine CallE.con ⟨_, he, ?_⟩)) | refine CallP.mk ⟨_, hc, ?_⟩ | ((with_reducible refine drawS_id ?_); (refine draw_newA ti_ok mixed ?_)) | ((with_reducible refine letC_id ?_); refine LetC.mk ((encS (entS (entOfR s))).map AV.d) (st_all _) ?_) | refine AtA.eq (ld_byte rfl (byte_at hs 1 (by decide))) ?_ | refine AtA.eq (ld_byte rfl (byte_at hs 2 (by decide))) ?_ | refine AtA.eq (ld_byte rfl (byte_at hs 3 (by decide))) ?_ | refine AtA.eq (ld_sec rfl rfl hs) ?_ | refine AtA.eq (ld_sec rfl rfl hel) ?_ | refine cond_tt (likeSS _ _ hs hel) ?_ | ((with_reducible refine exi_id ?_); refine ⟨entNm s, rfl, ?_⟩)|(with_reducible first|refine gB ?_|refine gZ (fun x hx hu=>?_)|refine gY (fun x hx=>?_)|refine gE ?_|refine Both.mk ?_ ?_|refine gS (fun h=>?_) (fun h=>?_)|refine Spl.nt ?_|refine Spl.mk (fun h=>?_) (fun h=>?_))))
   all_goals rfl
  ·rw [show entOf s = ent0 from if_neg (fun q => h2 q.2), show entOk s = false from decide_eq_false (fun q => q.elim h0 fun q => h2 q.2)]
   rw [decide_eq_false h2] at heq
   refine FnC.intro ti_ok Tryz.func123 rfl Tryz.ntmps123 Tryz.call123 rfl (Nat.le_of_ble_eq_true rfl) rfl ?_
   (repeat' ((conv=>whnf);first|with_reducible refine gA ?_|((with_reducible refine callE_id ?_); first | (refine CallE.con ⟨_, hz, ?_⟩) | (refine CallE.con ⟨_, he, ?_⟩)) | refine CallP.mk ⟨_, hc, ?_⟩ | ((with_reducible refine drawS_id ?_); (refine draw_newA ti_ok mixed ?_)) | ((with_reducible refine letC_id ?_); refine LetC.mk ((encS (entS (entOfR s))).map AV.d) (st_all _) ?_) | refine AtA.eq (ld_byte rfl (byte_at hs 1 (by decide))) ?_ | refine AtA.eq (ld_byte rfl (byte_at hs 2 (by decide))) ?_ | refine AtA.eq (ld_byte rfl (byte_at hs 3 (by decide))) ?_ | refine AtA.eq (ld_sec rfl rfl hs) ?_ | refine AtA.eq (ld_sec rfl rfl hel) ?_ | refine cond_tt (likeSS _ _ hs hel) ?_ | ((with_reducible refine exi_id ?_); refine ⟨entNm s, rfl, ?_⟩)|(with_reducible first|refine gB ?_|refine gZ (fun x hx hu=>?_)|refine gY (fun x hx=>?_)|refine gE ?_|refine Both.mk ?_ ?_|refine gS (fun h=>?_) (fun h=>?_)|refine Spl.nt ?_|refine Spl.mk (fun h=>?_) (fun h=>?_))))
   all_goals rfl
 ·have hel : zeroS.length = 32 := rfl
  rw [entR, if_neg h1] at he
  rw [show entOf s = ent0 from if_neg (fun q => h1 q.1), show entOk s = false from decide_eq_false (fun q => q.elim h0 fun q => h1 q.1)]
  refine FnC.intro ti_ok Tryz.func123 rfl Tryz.ntmps123 Tryz.call123 rfl (Nat.le_of_ble_eq_true rfl) rfl ?_
  (repeat' ((conv=>whnf);first|with_reducible refine gA ?_|((with_reducible refine callE_id ?_); first | (refine CallE.con ⟨_, hz, ?_⟩) | (refine CallE.con ⟨_, he, ?_⟩)) | refine CallP.mk ⟨_, hc, ?_⟩ | ((with_reducible refine drawS_id ?_); (refine draw_newA ti_ok mixed ?_)) | ((with_reducible refine letC_id ?_); refine LetC.mk ((encS zeroS).map AV.d) (st_all _) ?_) | refine AtA.eq (ld_byte rfl (byte_at hs 1 (by decide))) ?_ | refine AtA.eq (ld_byte rfl (byte_at hs 2 (by decide))) ?_ | refine AtA.eq (ld_byte rfl (byte_at hs 3 (by decide))) ?_ | refine AtA.eq (ld_sec rfl rfl hs) ?_ | refine AtA.eq (ld_sec rfl rfl hel) ?_ | refine cond_tt (likeSS _ _ hs hel) ?_ | ((with_reducible refine exi_id ?_); refine ⟨entNm s, rfl, ?_⟩)|(with_reducible first|refine gB ?_|refine gZ (fun x hx hu=>?_)|refine gY (fun x hx=>?_)|refine gE ?_|refine Both.mk ?_ ?_|refine gS (fun h=>?_) (fun h=>?_)|refine Spl.nt ?_|refine Spl.mk (fun h=>?_) (fun h=>?_))))
  all_goals rfl
end Go.Proofs.YthknbpijaoljgaaGreatDoor
namespace Go.Proofs.YthknbpijaoljgaaGreatDoor
open Go.Sy
theorem isEnt_bytes {s : List UInt8} (h : isEnt s) : s.getD 0 0 = 1 ∧ (s.getD 3 0).toNat ≤ 8 := by
 obtain ⟨h1, h2⟩ := h
 have hl : (entNm s).length ≤ 8 := by
  unfold RE entOfR at h1
  rcases h1 with h1 | h1
  ·cases h1.1
  ·have := h1.2.2.2.2.2
   unfold nameB at this
   simp only [Bool.and_eq_true, decide_eq_true_eq] at this
   exact this.1.2.1
 have e0 : s.getD 0 0 = 1 := by rw [h2]; rfl
 have e3 : s.getD 3 0 = by8e ((entNm s).length : Nat) := by
  have : s.getD 3 0 = (entS (entOfR s)).getD 3 0 := by rw [← h2]
  exact this
 refine ⟨e0, ?_⟩
 have := by8e_ok (n := ((entNm s).length : Nat)) (by omega)
 rw [e3]; omega
theorem st_part {s : List UInt8} (hn : (s.getD 3 0).toNat ≤ 16) {a b : Nat} (ha : a = 16) (hb : b = (s.getD 3 0).toNat) : (((encS s).map AV.d).drop a).take b = (entNm s).map u8A := by
 subst ha hb
 unfold entNm
 rw [if_pos hn]
 unfold encS u8A
 rw [List.map_map, List.map_take, List.map_drop]; rfl
set_option maxHeartbeats 4000000 in
theorem refEntOf_ok (s : List UInt8) (hs : s.length = 32) : FnC Tryz.prog 89 [.dg 32 (encS s)] (entOfV s) := by
 have c0 := (s.getD 0 0).toNat_lt
 have c1 := (s.getD 1 0).toNat_lt
 have c2 := (s.getD 2 0).toNat_lt
 have c3 := (s.getD 3 0).toNat_lt
 unfold entOfV
 by_cases hx : s.getD 0 0 = 1 ∧ (s.getD 3 0).toNat ≤ 8
 ·obtain ⟨x0, x3⟩ := hx
  have h0 : ¬ s = zeroS := by intro h; rw [h] at x0; cases x0
  have x0' : ((s.getD 0 0).toNat : Int) = 1 := by rw [x0]; rfl
  have he := refEnt_ok (entOfR s)
  by_cases h1 : RE (entOfR s)
  ·have hel := entS_len _ h1
   rw [entR, if_pos h1] at he
   have heq := eqS (entS (entOfR s)) s (by rw [hs, hel])
   by_cases h2 : s = entS (entOfR s)
   ·rw [show entOf s = entOfR s from if_pos ⟨h1, h2⟩, show entOk s = true from decide_eq_true (.inr ⟨h1, h2⟩)]
    rw [decide_eq_true h2.symm] at heq
    refine FnC.intro ti_ok Tryz.func89 rfl Tryz.ntmps89 Tryz.call89 rfl (Nat.le_of_ble_eq_true rfl) rfl ?_
    (repeat' ((conv=>whnf);first|with_reducible refine gA ?_|((with_reducible refine callE_id ?_); (refine CallE.con ⟨_, he, ?_⟩)) | ((with_reducible refine letC_id ?_); refine LetC.mk ((encS (entS (entOfR s))).map AV.d) (st_all _) ?_) | refine AtA.eq (ld_byte rfl (byte_at hs 0 (by decide))) ?_ | refine AtA.eq (ld_byte rfl (byte_at hs 1 (by decide))) ?_ | refine AtA.eq (ld_byte rfl (byte_at hs 2 (by decide))) ?_ | refine AtA.eq (ld_byte rfl (byte_at hs 3 (by decide))) ?_ | refine AtA.eq (ld_sec rfl rfl hs) ?_ | refine AtA.eq (ld_sec rfl rfl hel) ?_ | refine cond_tt (likeSS _ _ hel hs) ?_ | ((with_reducible refine exi_id ?_); refine ⟨entNm s, ⟨?_, st_part (by omega) ?_ ?_⟩, ?_⟩)|(with_reducible first|refine gB ?_|refine gZ (fun x hx hu=>?_)|refine gY (fun x hx=>?_)|refine gE ?_|refine Both.mk ?_ ?_|refine gS (fun h=>?_) (fun h=>?_)|refine Spl.nt ?_|refine Spl.mk (fun h=>?_) (fun h=>?_))))
    all_goals first | rfl | (show 0 + Int.toNat 16 * 1 + ((16 + ((s.getD 3 0).toNat : Int)).toNat - Int.toNat 16) ≤ 32; omega) | (show ((16 + ((s.getD 3 0).toNat : Int)).toNat - Int.toNat 16) = _; omega)
   ·rw [show entOf s = ent0 from if_neg (fun q => h2 q.2), show entOk s = false from decide_eq_false (fun q => q.elim h0 fun q => h2 q.2)]
    rw [decide_eq_false (Ne.symm h2)] at heq
    refine FnC.intro ti_ok Tryz.func89 rfl Tryz.ntmps89 Tryz.call89 rfl (Nat.le_of_ble_eq_true rfl) rfl ?_
    (repeat' ((conv=>whnf);first|with_reducible refine gA ?_|((with_reducible refine callE_id ?_); (refine CallE.con ⟨_, he, ?_⟩)) | ((with_reducible refine letC_id ?_); refine LetC.mk ((encS (entS (entOfR s))).map AV.d) (st_all _) ?_) | refine AtA.eq (ld_byte rfl (byte_at hs 0 (by decide))) ?_ | refine AtA.eq (ld_byte rfl (byte_at hs 1 (by decide))) ?_ | refine AtA.eq (ld_byte rfl (byte_at hs 2 (by decide))) ?_ | refine AtA.eq (ld_byte rfl (byte_at hs 3 (by decide))) ?_ | refine AtA.eq (ld_sec rfl rfl hs) ?_ | refine AtA.eq (ld_sec rfl rfl hel) ?_ | refine cond_tt (likeSS _ _ hel hs) ?_ | ((with_reducible refine exi_id ?_); refine ⟨entNm s, ⟨?_, st_part (by omega) ?_ ?_⟩, ?_⟩)|(with_reducible first|refine gB ?_|refine gZ (fun x hx hu=>?_)|refine gY (fun x hx=>?_)|refine gE ?_|refine Both.mk ?_ ?_|refine gS (fun h=>?_) (fun h=>?_)|refine Spl.nt ?_|refine Spl.mk (fun h=>?_) (fun h=>?_))))
    all_goals first | rfl | (show 0 + Int.toNat 16 * 1 + ((16 + ((s.getD 3 0).toNat : Int)).toNat - Int.toNat 16) ≤ 32; omega) | (show ((16 + ((s.getD 3 0).toNat : Int)).toNat - Int.toNat 16) = _; omega)
  ·have hel : zeroS.length = 32 := rfl
   rw [entR, if_neg h1] at he
   rw [show entOf s = ent0 from if_neg (fun q => h1 q.1), show entOk s = false from decide_eq_false (fun q => q.elim h0 fun q => h1 q.1)]
   refine FnC.intro ti_ok Tryz.func89 rfl Tryz.ntmps89 Tryz.call89 rfl (Nat.le_of_ble_eq_true rfl) rfl ?_
   (repeat' ((conv=>whnf);first|with_reducible refine gA ?_|((with_reducible refine callE_id ?_); (refine CallE.con ⟨_, he, ?_⟩)) | ((with_reducible refine letC_id ?_); refine LetC.mk ((encS zeroS).map AV.d) (st_all _) ?_) | refine AtA.eq (ld_byte rfl (byte_at hs 0 (by decide))) ?_ | refine AtA.eq (ld_byte rfl (byte_at hs 1 (by decide))) ?_ | refine AtA.eq (ld_byte rfl (byte_at hs 2 (by decide))) ?_ | refine AtA.eq (ld_byte rfl (byte_at hs 3 (by decide))) ?_ | refine AtA.eq (ld_sec rfl rfl hs) ?_ | refine AtA.eq (ld_sec rfl rfl hel) ?_ | refine cond_tt (likeSS _ _ hel hs) ?_ | ((with_reducible refine exi_id ?_); refine ⟨entNm s, ⟨?_, st_part (by omega) ?_ ?_⟩, ?_⟩)|(with_reducible first|refine gB ?_|refine gZ (fun x hx hu=>?_)|refine gY (fun x hx=>?_)|refine gE ?_|refine Both.mk ?_ ?_|refine gS (fun h=>?_) (fun h=>?_)|refine Spl.nt ?_|refine Spl.mk (fun h=>?_) (fun h=>?_))))
   all_goals first | rfl | (show 0 + Int.toNat 16 * 1 + ((16 + ((s.getD 3 0).toNat : Int)).toNat - Int.toNat 16) ≤ 32; omega) | (show ((16 + ((s.getD 3 0).toNat : Int)).toNat - Int.toNat 16) = _; omega)
 ·have hne : ¬ isEnt s := fun h => hx (isEnt_bytes h)
  have hx' : (s.getD 0 0).toNat = 1 → ¬ (s.getD 3 0).toNat ≤ 8 := fun h1 h2 => hx ⟨UInt8.toNat_inj.1 h1, h2⟩
  have hel : zeroS.length = 32 := rfl
  have h1 : RE ent0 := by decide
  have he := refEnt_ok ent0
  rw [entR, if_pos h1, show entS ent0 = zeroS from rfl] at he
  have heq := eqS zeroS s (by rw [hs]; rfl)
  rw [show entOf s = ent0 from if_neg hne]
  by_cases h0 : zeroS = s
  ·rw [decide_eq_true h0] at heq
   rw [show entOk s = true from decide_eq_true (.inl h0.symm)]
   refine FnC.intro ti_ok Tryz.func89 rfl Tryz.ntmps89 Tryz.call89 rfl (Nat.le_of_ble_eq_true rfl) rfl ?_
   (repeat' ((conv=>whnf);first|with_reducible refine gA ?_|((with_reducible refine callE_id ?_); (refine CallE.con ⟨_, he, ?_⟩)) | ((with_reducible refine letC_id ?_); refine LetC.mk ((encS zeroS).map AV.d) (st_all _) ?_) | refine AtA.eq (ld_byte rfl (byte_at hs 0 (by decide))) ?_ | refine AtA.eq (ld_byte rfl (byte_at hs 1 (by decide))) ?_ | refine AtA.eq (ld_byte rfl (byte_at hs 2 (by decide))) ?_ | refine AtA.eq (ld_byte rfl (byte_at hs 3 (by decide))) ?_ | refine AtA.eq (ld_sec rfl rfl hs) ?_ | refine AtA.eq (ld_sec rfl rfl hel) ?_ | refine cond_tt (likeSS _ _ hel hs) ?_ | ((with_reducible refine exi_id ?_); refine ⟨entNm s, ⟨?_, st_part (by omega) ?_ ?_⟩, ?_⟩)|(with_reducible first|refine gB ?_|refine gZ (fun x hx hu=>?_)|refine gY (fun x hx=>?_)|refine gE ?_|refine Both.mk ?_ ?_|refine gS (fun h=>?_) (fun h=>?_)|refine Spl.nt ?_|refine Spl.mk (fun h=>?_) (fun h=>?_))))
   all_goals first | rfl | (show 0 + Int.toNat 16 * 1 + ((16 + ((s.getD 3 0).toNat : Int)).toNat - Int.toNat 16) ≤ 32; omega) | (show ((16 + ((s.getD 3 0).toNat : Int)).toNat - Int.toNat 16) = _; omega)
  ·rw [decide_eq_false h0] at heq
   rw [show entOk s = false from decide_eq_false (fun q => q.elim (fun q => h0 q.symm) hne)]
   refine FnC.intro ti_ok Tryz.func89 rfl Tryz.ntmps89 Tryz.call89 rfl (Nat.le_of_ble_eq_true rfl) rfl ?_
   (repeat' ((conv=>whnf);first|with_reducible refine gA ?_|((with_reducible refine callE_id ?_); (refine CallE.con ⟨_, he, ?_⟩)) | ((with_reducible refine letC_id ?_); refine LetC.mk ((encS zeroS).map AV.d) (st_all _) ?_) | refine AtA.eq (ld_byte rfl (byte_at hs 0 (by decide))) ?_ | refine AtA.eq (ld_byte rfl (byte_at hs 1 (by decide))) ?_ | refine AtA.eq (ld_byte rfl (byte_at hs 2 (by decide))) ?_ | refine AtA.eq (ld_byte rfl (byte_at hs 3 (by decide))) ?_ | refine AtA.eq (ld_sec rfl rfl hs) ?_ | refine AtA.eq (ld_sec rfl rfl hel) ?_ | refine cond_tt (likeSS _ _ hel hs) ?_ | ((with_reducible refine exi_id ?_); refine ⟨entNm s, ⟨?_, st_part (by omega) ?_ ?_⟩, ?_⟩)|(with_reducible first|refine gB ?_|refine gZ (fun x hx hu=>?_)|refine gY (fun x hx=>?_)|refine gE ?_|refine Both.mk ?_ ?_|refine gS (fun h=>?_) (fun h=>?_)|refine Spl.nt ?_|refine Spl.mk (fun h=>?_) (fun h=>?_))))
   all_goals first | rfl | (show 0 + Int.toNat 16 * 1 + ((16 + ((s.getD 3 0).toNat : Int)).toNat - Int.toNat 16) ≤ 32; omega) | (show ((16 + ((s.getD 3 0).toNat : Int)).toNat - Int.toNat 16) = _; omega)
end Go.Proofs.YthknbpijaoljgaaGreatDoor
namespace Go.Proofs.YthknbpijaoljgaaGreatDoor
open Go.Sy
structure Wr where
 a : Int
 s : List UInt8
 k : Int
 i : Int
 e : Int
deriving DecidableEq
def encW (w : Wr) : List D := [.it .i64 w.a] ++ encS w.s ++ [.it .i64 w.k, .it .i64 w.i, .it .i64 w.e]
structure Dk where
 nx : Int
 safe : List (List UInt8)
 wait : List Wr
 log : List (List D)
 ep : Int
def encDk (d : Dk) : List D := [.an, .it .i64 d.nx, .fs 32 (d.safe.map encS), .fs 36 (d.wait.map encW), .fs 38 d.log, .it .i64 d.ep]
def encD : Option Dk → D
 | none => .ot (.pointer none)
 | some d => .fp 6 (encDk d)
def DkOK : Option Dk → Prop
 | none => True
 | some d => (∀ s ∈ d.safe, s.length = 32) ∧ (∀ w ∈ d.wait, w.s.length = 32) ∧ d.safe.length ≤ 65 ∧ d.wait.length ≤ 100000
def noneB : Option Dk → Bool
 | none => true
 | some d => decide (d.safe.length = 0)
def hasP (d : Option Dk) (n : Int) : Prop :=
 match d with
 | none => False
 | some d => 0 ≤ n ∧ n < d.safe.length
instance (d : Option Dk) (n : Int) : Decidable (hasP d n) := by unfold hasP; cases d <;> infer_instance
def lastAt (n : Int) (w : List Wr) : Option (List UInt8) := (w.reverse.find? (fun x => decide (x.a = n))).map (·.s)
def rdS (d : Option Dk) (n : Int) : List UInt8 :=
 match d with
 | none => zeroS
 | some d => if 0 ≤ n ∧ n < d.safe.length then (match lastAt n d.wait with | some s => s | none => d.safe.getD n.toNat zeroS) else zeroS
def rdE (d : Option Dk) (n : Int) : Int := if hasP d n then 0 else 1
theorem rdS_len {d : Option Dk} (h : DkOK d) (n : Int) : (rdS d n).length = 32 := by
 cases d with
 | none => rfl
 | some d =>
  obtain ⟨h1, h2, _⟩ := h
  simp only [rdS]
  split
  ·split
   ·rename_i s hs
    simp only [lastAt, Option.map_eq_some_iff] at hs
    obtain ⟨w, hw, rfl⟩ := hs
    exact h2 w (by simpa using List.mem_of_find?_eq_some hw)
   ·rw [List.getD_eq_getElem?_getD]
    cases hq : d.safe[n.toNat]? with
    | none => rfl
    | some s => exact h1 s (List.mem_of_getElem? hq)
  ·rfl
theorem none_ok (d : Option Dk) : FnC Tryz.prog 45 [.d (encD d)] (.d (.bl (noneB d))) := by
 cases d with
 | none =>
  refine FnC.intro ti_ok Tryz.func45 rfl Tryz.ntmps45 Tryz.call45 rfl (Nat.le_of_ble_eq_true rfl) rfl ?_
  (repeat' ((conv=>whnf);first|with_reducible refine gA ?_|(with_reducible first|refine gB ?_|refine gZ (fun x hx hu=>?_)|refine gY (fun x hx=>?_)|refine gE ?_|refine Both.mk ?_ ?_|refine gS (fun h=>?_) (fun h=>?_)|refine Spl.nt ?_|refine Spl.mk (fun h=>?_) (fun h=>?_))))
  rfl
 | some d =>
  refine FnC.intro ti_ok Tryz.func45 rfl Tryz.ntmps45 Tryz.call45 rfl (Nat.le_of_ble_eq_true rfl) rfl ?_
  (repeat' ((conv=>whnf);first|with_reducible refine gA ?_|(with_reducible first|refine gB ?_|refine gZ (fun x hx hu=>?_)|refine gY (fun x hx=>?_)|refine gE ?_|refine Both.mk ?_ ?_|refine gS (fun h=>?_) (fun h=>?_)|refine Spl.nt ?_|refine Spl.mk (fun h=>?_) (fun h=>?_))))
  refine bl_eq ?_
  show (((d.safe.map encS).length : Int) == 0) = decide (d.safe.length = 0)
  rw [List.length_map, Bool.eq_iff_iff, beq_iff_eq, decide_eq_true_eq]; omega
theorem has_ok (d : Option Dk) (n : Int) : FnC Tryz.prog 76 [.d (encD d), .d (.it .i64 n)] (.d (.bl (decide (hasP d n)))) := by
 have hn := none_ok d
 cases d with
 | none =>
  refine FnC.intro ti_ok Tryz.func76 rfl Tryz.ntmps76 Tryz.call76 rfl (Nat.le_of_ble_eq_true rfl) rfl ?_
  (repeat' ((conv=>whnf);first|with_reducible refine gA ?_|((with_reducible refine callE_id ?_); (refine CallE.con ⟨_, hn, ?_⟩))|(with_reducible first|refine gB ?_|refine gZ (fun x hx hu=>?_)|refine gY (fun x hx=>?_)|refine gE ?_|refine Both.mk ?_ ?_|refine gS (fun h=>?_) (fun h=>?_)|refine Spl.nt ?_|refine Spl.mk (fun h=>?_) (fun h=>?_))))
  rfl
 | some d =>
  by_cases h : d.safe.length = 0
  ·rw [show noneB (some d) = true from decide_eq_true h] at hn
   refine FnC.intro ti_ok Tryz.func76 rfl Tryz.ntmps76 Tryz.call76 rfl (Nat.le_of_ble_eq_true rfl) rfl ?_
   (repeat' ((conv=>whnf);first|with_reducible refine gA ?_|((with_reducible refine callE_id ?_); (refine CallE.con ⟨_, hn, ?_⟩))|(with_reducible first|refine gB ?_|refine gZ (fun x hx hu=>?_)|refine gY (fun x hx=>?_)|refine gE ?_|refine Both.mk ?_ ?_|refine gS (fun h=>?_) (fun h=>?_)|refine Spl.nt ?_|refine Spl.mk (fun h=>?_) (fun h=>?_))))
   exact bl_ff (by show ¬ (0 ≤ n ∧ n < d.safe.length); omega)
  ·rw [show noneB (some d) = false from decide_eq_false h] at hn
   refine FnC.intro ti_ok Tryz.func76 rfl Tryz.ntmps76 Tryz.call76 rfl (Nat.le_of_ble_eq_true rfl) rfl ?_
   (repeat' ((conv=>whnf);first|with_reducible refine gA ?_|((with_reducible refine callE_id ?_); (refine CallE.con ⟨_, hn, ?_⟩))|(with_reducible first|refine gB ?_|refine gZ (fun x hx hu=>?_)|refine gY (fun x hx=>?_)|refine gE ?_|refine Both.mk ?_ ?_|refine gS (fun h=>?_) (fun h=>?_)|refine Spl.nt ?_|refine Spl.mk (fun h=>?_) (fun h=>?_))))
   all_goals first
    | exact bl_ff (by show ¬ (0 ≤ n ∧ n < d.safe.length); omega)
    | exact bl_dec (by show n < ((d.safe.map encS).length : Int) ↔ (0 ≤ n ∧ n < (d.safe.length : Int)); rw [List.length_map]; omega)
theorem at_him {α β : Type} {e : α → β} {l : List α} {n : Int} {x : α} {K : β → Prop} (h0 : 0 ≤ n ∧ n < l.length) (hx : l[n.toNat]? = some x) (h : K (e x)) :
  (0 ≤ n ∧ n < (l.map e).length) ∧ ∀ c, (l.map e)[n.toNat]? = some c → K c :=
 at_intm h0 fun y hy => by rw [hx] at hy; obtain rfl := Option.some.inj hy; exact h
theorem encW_len {w : Wr} (h : w.s.length = 32) : (encW w).length = 36 := by unfold encW; simp [encS_len, h]
theorem st_tk {l : List D} {n : Nat} (h : l.length = n) : l.map AV.d = [] ++ (l.take n).map AV.d ++ [] := by
 rw [List.take_of_length_le (by omega), List.nil_append, List.append_nil]
theorem lastAt_hit {n : Int} {l : List Wr} {k : Nat} {w : Wr} (h : ∀ j, j < k → ∀ x, l.reverse[j]? = some x → x.a ≠ n) (hw : l.reverse[k]? = some w) (ha : w.a = n) : lastAt n l = some w.s := by
 unfold lastAt
 have hk := (List.getElem?_eq_some_iff.1 hw).1
 rw [List.find?_eq_some_iff_getElem.2 ⟨by simpa using ha, k, hk, (List.getElem?_eq_some_iff.1 hw).2, fun j hj => by
  have := h j hj _ (List.getElem?_eq_getElem (by omega))
  simpa using this⟩]
 rfl
theorem lastAt_none {n : Int} {l : List Wr} (h : ∀ j, j < l.length → ∀ x, l.reverse[j]? = some x → x.a ≠ n) : lastAt n l = none := by
 unfold lastAt
 rw [Option.map_eq_none_iff, List.find?_eq_none]
 intro x hx
 obtain ⟨j, hj, rfl⟩ := List.getElem_of_mem hx
 have := h j (by simpa using hj) _ (List.getElem?_eq_getElem hj)
 simpa using this
theorem hpd {d : Dk} {n : Int} : hasP (some d) n ↔ (0 ≤ n ∧ n < d.safe.length) := Iff.rfl
theorem ldW {w : Wr} (hs : w.s.length = 32) {ty : Ty} (ha : ty.kd.agg = true) (hz : ty.size = 32) : ldA ty 1 ((encW w).map AV.d) = .dg 32 (encS w.s) := by
 unfold ldA
 rw [ha, cond_true, hz]
 have h1 : (((encW w).map AV.d).drop 1).take 32 = (encS w.s).map AV.d := by
  show ((encS w.s ++ _).map AV.d).take 32 = _
  rw [List.map_append, List.take_append_of_le_length (by rw [List.length_map, encS_len, hs]; exact Nat.le_refl _), List.take_of_length_le (by rw [List.length_map, encS_len, hs]; exact Nat.le_refl _)]
 rw [h1]
 unfold mkAg
 rw [allD_map]
set_option maxHeartbeats 4000000 in
theorem read_ok (d : Option Dk) (hd : DkOK d) (n : Int) : FnC Tryz.prog 94 [.d (encD d), .d (.it .i64 n)] (.tup [.dg 32 (encS (rdS d n)), .d (.it .i64 (rdE d n))]) := by
 have hh := has_ok d n
 by_cases h : hasP d n
 rotate_left
 ·rw [decide_eq_false h] at hh
  rw [show rdE d n = 1 from if_neg h, show rdS d n = zeroS by cases d with | none => rfl | some d => exact if_neg h]
  refine FnC.intro ti_ok Tryz.func94 rfl Tryz.ntmps94 Tryz.call94 rfl (Nat.le_of_ble_eq_true rfl) rfl ?_
  (repeat' ((conv=>whnf);first|with_reducible refine gA ?_|((with_reducible refine callE_id ?_); (refine CallE.con ⟨_, hh, ?_⟩)) | with_reducible refine AtA.mk' ?_|(with_reducible first|refine gB ?_|refine gZ (fun x hx hu=>?_)|refine gY (fun x hx=>?_)|refine gE ?_|refine Both.mk ?_ ?_|refine gS (fun h=>?_) (fun h=>?_)|refine Spl.nt ?_|refine Spl.mk (fun h=>?_) (fun h=>?_))))
  rfl
 rw [decide_eq_true h] at hh
 cases d with
 | none => exact h.elim
 | some d =>
  obtain ⟨hd1, hd2, hd3, hd4⟩ := hd
  obtain ⟨h0, h1⟩ := hpd.1 h
  rw [show rdE (some d) n = 0 from if_pos h, show rdS (some d) n = (match lastAt n d.wait with | some s => s | none => d.safe.getD n.toNat zeroS) from if_pos h]
  generalize hR : (match lastAt n d.wait with | some s => s | none => d.safe.getD n.toNat zeroS) = R
  refine FnC.intro ti_ok Tryz.func94 rfl Tryz.ntmps94 Tryz.call94 rfl (Nat.le_of_ble_eq_true rfl) rfl ?_
  (repeat' ((conv=>whnf);first|with_reducible refine gA ?_|((with_reducible refine callE_id ?_); first | (refine CallE.con ⟨_, hh, ?_⟩) | refine CallE.inl ?_) | with_reducible refine CallI.inl ti_ok i126 rfl ?_ | with_reducible refine AtA.mk' ?_|(with_reducible first|refine gB ?_|refine gZ (fun x hx hu=>?_)|refine gY (fun x hx=>?_)|refine gE ?_|refine Both.mk ?_ ?_|refine gS (fun h=>?_) (fun h=>?_)|refine Spl.nt ?_|refine Spl.mk (fun h=>?_) (fun h=>?_))))
  refine RangeS.intro ti_ok i165 rfl rfl ?_
  (repeat' ((conv=>whnf);first|with_reducible refine gA ?_|(with_reducible first|refine gB ?_|refine gZ (fun x hx hu=>?_)|refine gY (fun x hx=>?_)|refine gE ?_|refine Both.mk ?_ ?_|refine gS (fun h=>?_) (fun h=>?_)|refine Spl.nt ?_|refine Spl.mk (fun h=>?_) (fun h=>?_))))
  have hwl : (d.wait.map encW).length = d.wait.length := List.length_map ..
  refine loop_mem0 ti_ok (fun k : Nat => k ≤ d.wait.length ∧ ∀ j, j < k → ∀ x, d.wait.reverse[j]? = some x → x.a ≠ n) (fun k => [(0, .yld 6), (1, .ptr 4 0), (3, .d (.it .i64 ((d.wait.length : Nat) - 1 - (k : Nat))))]) (fun k => d.wait.length - k) 0 ⟨Nat.zero_le _, fun j hj => by omega⟩ ⟨rfl, rfl, it_eq (by rw [hwl]; omega), trivial⟩ rfl ?_
  intro k ⟨k1, k2⟩
  rcases Nat.lt_or_ge k d.wait.length with hkl | hkl
  ·obtain ⟨w, hw⟩ := lt_get (l := d.wait) (k := d.wait.length - 1 - k) (by omega)
   have hw' : d.wait[((d.wait.length : Int) - 1 - k).toNat]? = some w := by rw [show ((d.wait.length : Int) - 1 - k).toNat = d.wait.length - 1 - k by omega]; exact hw
   have hrev : d.wait.reverse[k]? = some w := by rw [List.getElem?_reverse hkl]; exact hw
   have hws := hd2 w (List.mem_of_getElem? hw)
   (repeat' ((conv=>whnf);first|with_reducible refine gA ?_|with_reducible refine YieldI.intro ti_ok (by with_unfolding_all exact rfl) (by with_unfolding_all exact rfl) (by with_unfolding_all exact rfl) ?_ | ((with_reducible refine letC_id ?_); first | refine LetC.mk ((encW w).map AV.d) (st_tk (encW_len hws)) ?_ | refine LetC.mk ((encS w.s).map AV.d) (st_all _) ?_) | refine AtA.eq (ldW hws rfl rfl) ?_ | with_reducible refine AtA.mk' ?_ | with_reducible refine at_him (x := w) (by omega) hw' ?_|(with_reducible first|refine gB ?_|refine gZ (fun x hx hu=>?_)|refine gY (fun x hx=>?_)|refine gE ?_|refine Both.mk ?_ ?_|refine gS (fun h=>?_) (fun h=>?_)|refine Spl.nt ?_|refine Spl.mk (fun h=>?_) (fun h=>?_))))
   ·have : R = w.s := by rw [← hR, lastAt_hit k2 hrev (by assumption)]
    subst this
    conv => whnf
    conv in (ldA _ _ _) => tactic => exact ld_sec rfl rfl hws
    rfl
   ·refine againM0 (k + 1) ⟨by omega, fun j hj x hx => ?_⟩ (by dsimp only; omega) (And.intro rfl (And.intro rfl (And.intro (it_eq (by omega)) trivial))) (by (repeat (first | exact trivial | refine And.intro rfl ?_))) rfl
    rcases Nat.lt_or_ge j k with hjk | hjk
    ·exact k2 j hjk x hx
    ·obtain rfl : j = k := by omega
     obtain rfl : w = x := Option.some.inj (hrev.symm.trans hx)
     assumption
  ·have : R = d.safe.getD n.toNat zeroS := by rw [← hR, lastAt_none (fun j hj => k2 j (by omega))]
   obtain ⟨s, hsn⟩ := lt_get (l := d.safe) (k := n.toNat) (by omega)
   have hsl := hd1 s (List.mem_of_getElem? hsn)
   rw [List.getD_eq_getElem?_getD, hsn] at this
   have this : R = s := this
   rw [this]
   (repeat' ((conv=>whnf);first|with_reducible refine gA ?_|((with_reducible refine letC_id ?_); refine LetC.mk ((encS s).map AV.d) (st_tk (by rw [encS_len]; exact hsl)) ?_) | with_reducible refine AtA.mk' ?_ | with_reducible refine at_him (x := s) (by omega) hsn ?_|(with_reducible first|refine gB ?_|refine gZ (fun x hx hu=>?_)|refine gY (fun x hx=>?_)|refine gE ?_|refine Both.mk ?_ ?_|refine gS (fun h=>?_) (fun h=>?_)|refine Spl.nt ?_|refine Spl.mk (fun h=>?_) (fun h=>?_))))
   conv => whnf
   conv in (ldA _ _ _) => tactic => exact ld_sec rfl rfl hsl
   rfl
end Go.Proofs.YthknbpijaoljgaaGreatDoor
namespace Go.Proofs.YthknbpijaoljgaaGreatDoor
open Go.Sy
def inoB (s : List UInt8) : Prop := RI (inoOfR s) ∧ s = inoS (inoOfR s)
instance (s : List UInt8) : Decidable (inoB s) := by unfold inoB; infer_instance
def inoOf (s : List UInt8) : Ino := if inoB s then inoOfR s else ino0
theorem inoOfV_eq (s : List UInt8) : inoOfV s = .tup [.dg 6 (encI (inoOf s)), .d (.bl (decide (inoB s)))] := by
 unfold inoOfV inoOf
 by_cases h : inoB s
 ·have h' : RI (inoOfR s) ∧ s = inoS (inoOfR s) := h
  rw [if_pos h', if_pos h, decide_eq_true h]
 ·have h' : ¬ (RI (inoOfR s) ∧ s = inoS (inoOfR s)) := h
  rw [if_neg h', if_neg h, decide_eq_false h]
def inoAt (f : Int → List UInt8) (n : Int) : Ino := if 0 ≤ n ∧ n < 16 then inoOf (f (1 + n)) else ino0
def entAt (f : Int → List UInt8) (k : Int) : Ent := if 0 ≤ k ∧ k < 24 then entOf (f (17 + k)) else ent0
def imS (m : List (List UInt8)) (n : Int) : List UInt8 := m.getD n.toNat zeroS
def ImOK (m : List (List UInt8)) : Prop := ∀ s ∈ m, s.length = 32
theorem imS_len {m : List (List UInt8)} (h : ImOK m) (n : Int) : (imS m n).length = 32 := by
 unfold imS
 rw [List.getD_eq_getElem?_getD]
 cases hq : m[n.toNat]? with
 | none => rfl
 | some s => exact h s (List.mem_of_getElem? hq)
abbrev encM (m : List (List UInt8)) : D := .fs 32 (m.map encS)
theorem at_ok (d : Option Dk) (hd : DkOK d) (n : Int) : FnC Tryz.prog 110 [.d (encD d), .d (.it .i64 n)] (.dg 32 (encS (rdS d n))) := by
 have hr := read_ok d hd n
 have hl := rdS_len hd n
 refine FnC.intro ti_ok Tryz.func110 rfl Tryz.ntmps110 Tryz.call110 rfl (Nat.le_of_ble_eq_true rfl) rfl ?_
 (repeat' ((conv=>whnf);first|with_reducible refine gA ?_|((with_reducible refine callE_id ?_); (refine CallE.con ⟨_, hr, ?_⟩)) | ((with_reducible refine letC_id ?_); refine LetC.mk ((encS (rdS d n)).map AV.d) (st_all _) ?_) | refine AtA.eq (ld_sec rfl rfl hl) ?_|(with_reducible first|refine gB ?_|refine gZ (fun x hx hu=>?_)|refine gY (fun x hx=>?_)|refine gE ?_|refine Both.mk ?_ ?_|refine gS (fun h=>?_) (fun h=>?_)|refine Spl.nt ?_|refine Spl.mk (fun h=>?_) (fun h=>?_))))
 conv => whnf
 conv in (ldA _ _ _) => tactic => exact ld_sec rfl rfl hl
 rfl
theorem refAt_ok (m : List (List UInt8)) (hm : ImOK m) (n : Int) (h0 : 0 ≤ n) : FnC Tryz.prog 90 [.d (encM m), .d (.it .i64 n)] (.dg 32 (encS (imS m n))) := by
 have hl := imS_len hm n
 have hml : (m.map encS).length = m.length := List.length_map ..
 refine FnC.intro ti_ok Tryz.func90 rfl Tryz.ntmps90 Tryz.call90 rfl (Nat.le_of_ble_eq_true rfl) rfl ?_
 rcases Int.lt_or_le n (m.length : Int) with h | h
 ·obtain ⟨s, hs⟩ := lt_get (l := m) (k := n.toNat) (by omega)
  have he : imS m n = s := by unfold imS; rw [List.getD_eq_getElem?_getD, hs]; rfl
  rw [he] at hl ⊢
  (repeat' ((conv=>whnf);first|with_reducible refine gA ?_|((with_reducible refine letC_id ?_); refine LetC.mk ((encS s).map AV.d) (st_tk (by rw [encS_len]; exact hl)) ?_) | with_reducible refine AtA.mk' ?_ | with_reducible refine at_him (x := s) (by omega) hs ?_|(with_reducible first|refine gB ?_|refine gZ (fun x hx hu=>?_)|refine gY (fun x hx=>?_)|refine gE ?_|refine Both.mk ?_ ?_|refine gS (fun h=>?_) (fun h=>?_)|refine Spl.nt ?_|refine Spl.mk (fun h=>?_) (fun h=>?_))))
  all_goals first | omega | skip
  conv => whnf
  conv in (ldA _ _ _) => tactic => exact ld_sec rfl rfl hl
  rfl
 ·have he : imS m n = zeroS := by unfold imS; rw [List.getD_eq_getElem?_getD, List.getElem?_eq_none (by omega)]; rfl
  rw [he]
  (repeat' ((conv=>whnf);first|with_reducible refine gA ?_|with_reducible refine AtA.mk' ?_|(with_reducible first|refine gB ?_|refine gZ (fun x hx hu=>?_)|refine gY (fun x hx=>?_)|refine gE ?_|refine Both.mk ?_ ?_|refine gS (fun h=>?_) (fun h=>?_)|refine Spl.nt ?_|refine Spl.mk (fun h=>?_) (fun h=>?_))))
  all_goals first | omega | rfl
theorem inode_ok (d : Option Dk) (hd : DkOK d) (n : Int) : FnC Tryz.prog 72 [.d (encD d), .d (.it .i64 n)] (.dg 6 (encI (inoAt (rdS d) n))) := by
 by_cases h : 0 ≤ n ∧ n < 16
 ·have ha := at_ok d hd (1 + n)
  have hi := inoOf_ok (rdS d (1 + n)) (rdS_len hd _)
  rw [inoOfV_eq] at hi
  rw [show inoAt (rdS d) n = inoOf (rdS d (1 + n)) from if_pos h]
  refine FnC.intro ti_ok Tryz.func72 rfl Tryz.ntmps72 Tryz.call72 rfl (Nat.le_of_ble_eq_true rfl) rfl ?_
  (repeat' ((conv=>whnf);first|with_reducible refine gA ?_|((with_reducible refine callE_id ?_); first | (refine CallE.con ⟨_, ha, ?_⟩) | (refine CallE.con ⟨_, hi, ?_⟩))|(with_reducible first|refine gB ?_|refine gZ (fun x hx hu=>?_)|refine gY (fun x hx=>?_)|refine gE ?_|refine Both.mk ?_ ?_|refine gS (fun h=>?_) (fun h=>?_)|refine Spl.nt ?_|refine Spl.mk (fun h=>?_) (fun h=>?_))))
  rfl
 ·rw [show inoAt (rdS d) n = ino0 from if_neg h]
  refine FnC.intro ti_ok Tryz.func72 rfl Tryz.ntmps72 Tryz.call72 rfl (Nat.le_of_ble_eq_true rfl) rfl ?_
  by_cases h0 : n < 0
  all_goals (repeat' ((conv=>whnf);first|with_reducible refine gA ?_|(with_reducible first|refine gB ?_|refine gZ (fun x hx hu=>?_)|refine gY (fun x hx=>?_)|refine gE ?_|refine Both.mk ?_ ?_|refine gS (fun h=>?_) (fun h=>?_)|refine Spl.nt ?_|refine Spl.mk (fun h=>?_) (fun h=>?_))))
  all_goals first | omega | rfl
theorem refInode_ok (m : List (List UInt8)) (hm : ImOK m) (n : Int) : FnC Tryz.prog 43 [.d (encM m), .d (.it .i64 n)] (.dg 6 (encI (inoAt (imS m) n))) := by
 by_cases h : 0 ≤ n ∧ n < 16
 ·have ha := refAt_ok m hm (1 + n) (by omega)
  have hi := refInoOf_ok (imS m (1 + n)) (imS_len hm _)
  rw [inoOfV_eq] at hi
  rw [show inoAt (imS m) n = inoOf (imS m (1 + n)) from if_pos h]
  refine FnC.intro ti_ok Tryz.func43 rfl Tryz.ntmps43 Tryz.call43 rfl (Nat.le_of_ble_eq_true rfl) rfl ?_
  (repeat' ((conv=>whnf);first|with_reducible refine gA ?_|((with_reducible refine callE_id ?_); first | (refine CallE.con ⟨_, ha, ?_⟩) | (refine CallE.con ⟨_, hi, ?_⟩))|(with_reducible first|refine gB ?_|refine gZ (fun x hx hu=>?_)|refine gY (fun x hx=>?_)|refine gE ?_|refine Both.mk ?_ ?_|refine gS (fun h=>?_) (fun h=>?_)|refine Spl.nt ?_|refine Spl.mk (fun h=>?_) (fun h=>?_))))
  rfl
 ·rw [show inoAt (imS m) n = ino0 from if_neg h]
  refine FnC.intro ti_ok Tryz.func43 rfl Tryz.ntmps43 Tryz.call43 rfl (Nat.le_of_ble_eq_true rfl) rfl ?_
  by_cases h0 : n < 0
  all_goals (repeat' ((conv=>whnf);first|with_reducible refine gA ?_|(with_reducible first|refine gB ?_|refine gZ (fun x hx hu=>?_)|refine gY (fun x hx=>?_)|refine gE ?_|refine Both.mk ?_ ?_|refine gS (fun h=>?_) (fun h=>?_)|refine Spl.nt ?_|refine Spl.mk (fun h=>?_) (fun h=>?_))))
  all_goals first | omega | rfl
theorem entry_ok (d : Option Dk) (hd : DkOK d) (n : Int) : FnC Tryz.prog 85 [.d (encD d), .d (.it .i64 n)] (.dg 4 (encE (entAt (rdS d) n))) := by
 by_cases h : 0 ≤ n ∧ n < 24
 ·have ha := at_ok d hd (17 + n)
  have hi := entOf_ok (rdS d (17 + n)) (rdS_len hd _)
  rw [entOfV] at hi
  rw [show entAt (rdS d) n = entOf (rdS d (17 + n)) from if_pos h]
  refine FnC.intro ti_ok Tryz.func85 rfl Tryz.ntmps85 Tryz.call85 rfl (Nat.le_of_ble_eq_true rfl) rfl ?_
  (repeat' ((conv=>whnf);first|with_reducible refine gA ?_|((with_reducible refine callE_id ?_); first | (refine CallE.con ⟨_, ha, ?_⟩) | (refine CallE.con ⟨_, hi, ?_⟩))|(with_reducible first|refine gB ?_|refine gZ (fun x hx hu=>?_)|refine gY (fun x hx=>?_)|refine gE ?_|refine Both.mk ?_ ?_|refine gS (fun h=>?_) (fun h=>?_)|refine Spl.nt ?_|refine Spl.mk (fun h=>?_) (fun h=>?_))))
  rfl
 ·rw [show entAt (rdS d) n = ent0 from if_neg h]
  refine FnC.intro ti_ok Tryz.func85 rfl Tryz.ntmps85 Tryz.call85 rfl (Nat.le_of_ble_eq_true rfl) rfl ?_
  by_cases h0 : n < 0
  all_goals (repeat' ((conv=>whnf);first|with_reducible refine gA ?_|(with_reducible first|refine gB ?_|refine gZ (fun x hx hu=>?_)|refine gY (fun x hx=>?_)|refine gE ?_|refine Both.mk ?_ ?_|refine gS (fun h=>?_) (fun h=>?_)|refine Spl.nt ?_|refine Spl.mk (fun h=>?_) (fun h=>?_))))
  all_goals first | omega | rfl
theorem refEntry_ok (m : List (List UInt8)) (hm : ImOK m) (n : Int) : FnC Tryz.prog 41 [.d (encM m), .d (.it .i64 n)] (.dg 4 (encE (entAt (imS m) n))) := by
 by_cases h : 0 ≤ n ∧ n < 24
 ·have ha := refAt_ok m hm (17 + n) (by omega)
  have hi := refEntOf_ok (imS m (17 + n)) (imS_len hm _)
  rw [entOfV] at hi
  rw [show entAt (imS m) n = entOf (imS m (17 + n)) from if_pos h]
  refine FnC.intro ti_ok Tryz.func41 rfl Tryz.ntmps41 Tryz.call41 rfl (Nat.le_of_ble_eq_true rfl) rfl ?_
  (repeat' ((conv=>whnf);first|with_reducible refine gA ?_|((with_reducible refine callE_id ?_); first | (refine CallE.con ⟨_, ha, ?_⟩) | (refine CallE.con ⟨_, hi, ?_⟩))|(with_reducible first|refine gB ?_|refine gZ (fun x hx hu=>?_)|refine gY (fun x hx=>?_)|refine gE ?_|refine Both.mk ?_ ?_|refine gS (fun h=>?_) (fun h=>?_)|refine Spl.nt ?_|refine Spl.mk (fun h=>?_) (fun h=>?_))))
  rfl
 ·rw [show entAt (imS m) n = ent0 from if_neg h]
  refine FnC.intro ti_ok Tryz.func41 rfl Tryz.ntmps41 Tryz.call41 rfl (Nat.le_of_ble_eq_true rfl) rfl ?_
  by_cases h0 : n < 0
  all_goals (repeat' ((conv=>whnf);first|with_reducible refine gA ?_|(with_reducible first|refine gB ?_|refine gZ (fun x hx hu=>?_)|refine gY (fun x hx=>?_)|refine gE ?_|refine Both.mk ?_ ?_|refine gS (fun h=>?_) (fun h=>?_)|refine Spl.nt ?_|refine Spl.mk (fun h=>?_) (fun h=>?_))))
  all_goals first | omega | rfl
end Go.Proofs.YthknbpijaoljgaaGreatDoor
namespace Go.Proofs.YthknbpijaoljgaaGreatDoor
open Go.Sy
def takP (f : Int → List UInt8) (n : Int) : Prop := n = 0 ∨ ∃ k : Nat, k < 24 ∧ (entAt f k).u = true ∧ (entAt f k).t = n
instance (f : Int → List UInt8) (n : Int) : Decidable (takP f n) := by unfold takP; infer_instance
set_option maxHeartbeats 4000000 in
theorem taken_ok (d : Option Dk) (hd : DkOK d) (n : Int) : FnC Tryz.prog 83 [.d (encD d), .d (.it .i64 n)] (.d (.bl (decide (takP (rdS d) n)))) := by
 have he := fun k => entry_ok d hd k
 refine FnC.intro ti_ok Tryz.func83 rfl Tryz.ntmps83 Tryz.call83 rfl (Nat.le_of_ble_eq_true rfl) rfl ?_
 (repeat' ((conv=>whnf);first|with_reducible refine gA ?_|((with_reducible refine callE_id ?_); refine CallE.inl ?_) | with_reducible refine CallI.inl ti_ok i121 rfl ?_ | with_reducible refine AtA.mk' ?_|(with_reducible first|refine gB ?_|refine gZ (fun x hx hu=>?_)|refine gY (fun x hx=>?_)|refine gE ?_|refine Both.mk ?_ ?_|refine gS (fun h=>?_) (fun h=>?_)|refine Spl.nt ?_|refine Spl.mk (fun h=>?_) (fun h=>?_))))
 refine RangeS.intro ti_ok i153 rfl rfl ?_
 (repeat' ((conv=>whnf);first|with_reducible refine gA ?_|(with_reducible first|refine gB ?_|refine gZ (fun x hx hu=>?_)|refine gY (fun x hx=>?_)|refine gE ?_|refine Both.mk ?_ ?_|refine gS (fun h=>?_) (fun h=>?_)|refine Spl.nt ?_|refine Spl.mk (fun h=>?_) (fun h=>?_))))
 refine loop_mem0 ti_ok (fun k : Nat => k ≤ 24 ∧ ∀ j : Nat, j < k → ¬ ((entAt (rdS d) j).u = true ∧ (entAt (rdS d) j).t = n)) (fun k : Nat => [(0, .yld 5), (1, .ptr 3 0), (5, .d (.it .i64 (k : Nat)))]) (fun k => 24 - k) 0 ⟨Nat.zero_le _, fun j hj => by omega⟩ ⟨rfl, rfl, rfl, trivial⟩ rfl ?_
 intro k ⟨k1, k2⟩
 rcases Nat.lt_or_ge k 24 with hk | hk
 ·have hek := he (k : Nat)
  cases hu : (entAt (rdS d) k).u with
  | false =>
   have hek' : encE (entAt (rdS d) k) = [.bl false, .it .i64 (entAt (rdS d) k).p, .st (entAt (rdS d) k).n, .it .i64 (entAt (rdS d) k).t] := by rw [encE, hu]
   rw [hek'] at hek
   (repeat' ((conv=>whnf);first|with_reducible refine gA ?_|((with_reducible refine callE_id ?_); (refine CallE.con ⟨_, hek, ?_⟩))|(with_reducible first|refine gB ?_|refine gZ (fun x hx hu=>?_)|refine gY (fun x hx=>?_)|refine gE ?_|refine Both.mk ?_ ?_|refine gS (fun h=>?_) (fun h=>?_)|refine Spl.nt ?_|refine Spl.mk (fun h=>?_) (fun h=>?_))))
   refine againM0 (k + 1) ⟨by omega, fun j hj => ?_⟩ (by dsimp only; omega) (And.intro rfl (And.intro rfl (And.intro (it_eq (by omega)) trivial))) (by (repeat (first | exact trivial | refine And.intro rfl ?_))) rfl
   rcases Nat.lt_or_ge j k with hjk | hjk
   ·exact k2 j hjk
   ·obtain rfl : j = k := by omega
    rw [hu]; simp
  | true =>
   have hek' : encE (entAt (rdS d) k) = [.bl true, .it .i64 (entAt (rdS d) k).p, .st (entAt (rdS d) k).n, .it .i64 (entAt (rdS d) k).t] := by rw [encE, hu]
   rw [hek'] at hek
   (repeat' ((conv=>whnf);first|with_reducible refine gA ?_|((with_reducible refine callE_id ?_); (refine CallE.con ⟨_, hek, ?_⟩)) | with_reducible refine YieldI.intro ti_ok (by with_unfolding_all exact rfl) (by with_unfolding_all exact rfl) (by with_unfolding_all exact rfl) ?_|(with_reducible first|refine gB ?_|refine gZ (fun x hx hu=>?_)|refine gY (fun x hx=>?_)|refine gE ?_|refine Both.mk ?_ ?_|refine gS (fun h=>?_) (fun h=>?_)|refine Spl.nt ?_|refine Spl.mk (fun h=>?_) (fun h=>?_))))
   ·exact bl_tt (.inr ⟨k, hk, hu, by assumption⟩)
   ·refine againM0 (k + 1) ⟨by omega, fun j hj => ?_⟩ (by dsimp only; omega) (And.intro rfl (And.intro rfl (And.intro (it_eq (by omega)) trivial))) (by (repeat (first | exact trivial | refine And.intro rfl ?_))) rfl
    rcases Nat.lt_or_ge j k with hjk | hjk
    ·exact k2 j hjk
    ·obtain rfl : j = k := by omega
     exact fun hq => (by assumption : ¬ _) hq.2
 ·(repeat' ((conv=>whnf);first|with_reducible refine gA ?_|(with_reducible first|refine gB ?_|refine gZ (fun x hx hu=>?_)|refine gY (fun x hx=>?_)|refine gE ?_|refine Both.mk ?_ ?_|refine gS (fun h=>?_) (fun h=>?_)|refine Spl.nt ?_|refine Spl.mk (fun h=>?_) (fun h=>?_))))
  refine bl_of ?_
  rw [beq_iff_eq]
  refine ⟨fun h => .inl h, fun h => h.elim id fun ⟨j, hj, h1, h2⟩ => absurd ⟨h1, h2⟩ (k2 j (by omega))⟩
set_option maxHeartbeats 4000000 in
theorem refTaken_ok (m : List (List UInt8)) (hm : ImOK m) (n : Int) : FnC Tryz.prog 91 [.d (encM m), .d (.it .i64 n)] (.d (.bl (decide (takP (imS m) n)))) := by
 have he := fun k => refEntry_ok m hm k
 refine FnC.intro ti_ok Tryz.func91 rfl Tryz.ntmps91 Tryz.call91 rfl (Nat.le_of_ble_eq_true rfl) rfl ?_
 (repeat' ((conv=>whnf);first|with_reducible refine gA ?_|(with_reducible first|refine gB ?_|refine gZ (fun x hx hu=>?_)|refine gY (fun x hx=>?_)|refine gE ?_|refine Both.mk ?_ ?_|refine gS (fun h=>?_) (fun h=>?_)|refine Spl.nt ?_|refine Spl.mk (fun h=>?_) (fun h=>?_))))
 refine loop_rule ti_ok (fun k : Nat => k ≤ 24 ∧ ∀ j : Nat, j < k → ¬ ((entAt (imS m) j).u = true ∧ (entAt (imS m) j).t = n)) (fun k : Nat => ⟨[(0, .d (encM m)), (1, .d (.it .i64 n)), (5, .d (.it .i64 (k : Nat)))], [], 0⟩) (fun k => 24 - k) 0 ⟨Nat.zero_le _, fun j hj => by omega⟩ ⟨And.intro rfl (And.intro rfl (And.intro rfl trivial)), trivial, rfl⟩ ?_
 intro k ⟨k1, k2⟩
 rcases Nat.lt_or_ge k 24 with hk | hk
 ·have hek := he (k : Nat)
  cases hu : (entAt (imS m) k).u with
  | false =>
   have hek' : encE (entAt (imS m) k) = [.bl false, .it .i64 (entAt (imS m) k).p, .st (entAt (imS m) k).n, .it .i64 (entAt (imS m) k).t] := by rw [encE, hu]
   rw [hek'] at hek
   (repeat' ((conv=>whnf);first|with_reducible refine gA ?_|((with_reducible refine callE_id ?_); (refine CallE.con ⟨_, hek, ?_⟩))|(with_reducible first|refine gB ?_|refine gZ (fun x hx hu=>?_)|refine gY (fun x hx=>?_)|refine gE ?_|refine Both.mk ?_ ?_|refine gS (fun h=>?_) (fun h=>?_)|refine Spl.nt ?_|refine Spl.mk (fun h=>?_) (fun h=>?_))))
   refine again (k + 1) ⟨by omega, fun j hj => ?_⟩ (by dsimp only; omega) (And.intro rfl (And.intro rfl (And.intro (it_eq (by omega)) trivial))) trivial rfl
   rcases Nat.lt_or_ge j k with hjk | hjk
   ·exact k2 j hjk
   ·obtain rfl : j = k := by omega
    rw [hu]; simp
  | true =>
   have hek' : encE (entAt (imS m) k) = [.bl true, .it .i64 (entAt (imS m) k).p, .st (entAt (imS m) k).n, .it .i64 (entAt (imS m) k).t] := by rw [encE, hu]
   rw [hek'] at hek
   (repeat' ((conv=>whnf);first|with_reducible refine gA ?_|((with_reducible refine callE_id ?_); (refine CallE.con ⟨_, hek, ?_⟩))|(with_reducible first|refine gB ?_|refine gZ (fun x hx hu=>?_)|refine gY (fun x hx=>?_)|refine gE ?_|refine Both.mk ?_ ?_|refine gS (fun h=>?_) (fun h=>?_)|refine Spl.nt ?_|refine Spl.mk (fun h=>?_) (fun h=>?_))))
   ·exact bl_tt (.inr ⟨k, hk, hu, by assumption⟩)
   ·refine again (k + 1) ⟨by omega, fun j hj => ?_⟩ (by dsimp only; omega) (And.intro rfl (And.intro rfl (And.intro (it_eq (by omega)) trivial))) trivial rfl
    rcases Nat.lt_or_ge j k with hjk | hjk
    ·exact k2 j hjk
    ·obtain rfl : j = k := by omega
     exact fun hq => (by assumption : ¬ _) hq.2
 ·(repeat' ((conv=>whnf);first|with_reducible refine gA ?_|(with_reducible first|refine gB ?_|refine gZ (fun x hx hu=>?_)|refine gY (fun x hx=>?_)|refine gE ?_|refine Both.mk ?_ ?_|refine gS (fun h=>?_) (fun h=>?_)|refine Spl.nt ?_|refine Spl.mk (fun h=>?_) (fun h=>?_))))
  refine bl_of ?_
  rw [beq_iff_eq]
  refine ⟨fun h => .inl h, fun h => h.elim id fun ⟨j, hj, h1, h2⟩ => absurd ⟨h1, h2⟩ (k2 j (by omega))⟩
def superS : List UInt8 := [70, 76, 79, 84, 0, 0, 0, 0, 0, 0, 0, 0, 0, 0, 0, 0, 0, 0, 0, 0, 0, 0, 0, 0, 0, 0, 0, 0, 0, 0, 0, 0]
theorem refSuper_ok : FnC Tryz.prog 74 [] (.dg 32 (encS superS)) := by
 refine FnC.intro ti_ok Tryz.func74 rfl Tryz.ntmps74 Tryz.call74 rfl (Nat.le_of_ble_eq_true rfl) rfl ?_
 (repeat' ((conv=>whnf);first|with_reducible refine gA ?_|with_reducible refine AtA.mk' ?_|(with_reducible first|refine gB ?_|refine gZ (fun x hx hu=>?_)|refine gY (fun x hx=>?_)|refine gE ?_|refine Both.mk ?_ ?_|refine gS (fun h=>?_) (fun h=>?_)|refine Spl.nt ?_|refine Spl.mk (fun h=>?_) (fun h=>?_))))
 rfl
end Go.Proofs.YthknbpijaoljgaaGreatDoor
namespace Go.Proofs.YthknbpijaoljgaaGreatDoor
open Go.Sy
theorem super_ok : FnC Tryz.prog 127 [] (.dg 32 (encS superS)) := by
 have hf := fits_ok 0 4
 refine FnC.intro ti_ok Tryz.func127 rfl Tryz.ntmps127 Tryz.call127 rfl (Nat.le_of_ble_eq_true rfl) rfl ?_
 (repeat' ((conv=>whnf);first|with_reducible refine gA ?_|((with_reducible refine nils_id ?_); refine NilS.vec ?_) | ((with_reducible refine opX_id ?_); refine OpX.conv ti_ok rfl rfl (by with_unfolding_all exact rfl) (by with_unfolding_all exact rfl) (by with_unfolding_all exact rfl) (Nat.le_of_ble_eq_true rfl) (by with_unfolding_all exact rfl) rfl (by with_unfolding_all exact rfl) rfl ?_) | ((with_reducible refine callE_id ?_); first | (refine CallE.con ⟨_, hf, ?_⟩) | refine CallE.inl ?_) | with_reducible refine CallI.inl ti_ok i166 rfl ?_ | with_reducible refine CallI.inl ti_ok i184 rfl ?_ | with_reducible refine AtA.mk' ?_|(with_reducible first|refine gB ?_|refine gZ (fun x hx hu=>?_)|refine gY (fun x hx=>?_)|refine gE ?_|refine Both.mk ?_ ?_|refine gS (fun h=>?_) (fun h=>?_)|refine Spl.nt ?_|refine Spl.mk (fun h=>?_) (fun h=>?_))))
 rfl
def mntP (m : List (List UInt8)) : Prop := m.length = 65 ∧ imS m 0 = superS ∧ inoB (imS m 1) ∧ (inoOf (imS m 1)).k = 2
instance (m : List (List UInt8)) : Decidable (mntP m) := by unfold mntP; infer_instance
theorem ldD_sec {ty : Ty} (ha : ty.kd.agg = true) (hz : ty.size = 32) {s : List UInt8} (hs : s.length = 32) : ldD ty (encS s) = .dg 32 (encS s) := by
 unfold ldD
 rw [ha, cond_true, hz, List.take_of_length_le (by rw [encS_len, hs]; exact Nat.le_refl _)]
theorem spl_id {b : Bool} {A B : Prop} (h : Spl b A B) : Spl b A B := h
theorem beqN {b : Bool} (h : b = true) : (!b) = false := by rw [h]; rfl
theorem beqY {b : Bool} (h : b = false) : (!b) = true := by rw [h]; rfl
set_option maxHeartbeats 4000000 in
theorem mounts_ok (m : List (List UInt8)) (hm : ImOK m) : FnC Tryz.prog 95 [.d (encM m)] (.d (.bl (decide (mntP m)))) := by
 have hml : (m.map encS).length = m.length := List.length_map ..
 by_cases h : m.length = 65
 ·obtain ⟨s0, hs0⟩ := lt_get (l := m) (k := 0) (by omega)
  obtain ⟨s1, hs1⟩ := lt_get (l := m) (k := 1) (by omega)
  have l0 := hm s0 (List.mem_of_getElem? hs0)
  have l1 := hm s1 (List.mem_of_getElem? hs1)
  have e0 : imS m 0 = s0 := by unfold imS; rw [List.getD_eq_getElem?_getD]; show (m[0]?).getD _ = _; rw [hs0]; rfl
  have e1 : imS m 1 = s1 := by unfold imS; rw [List.getD_eq_getElem?_getD]; show (m[1]?).getD _ = _; rw [hs1]; rfl
  have hs0' : m[(0 : Int).toNat]? = some s0 := hs0
  have hs1' : m[(1 : Int).toNat]? = some s1 := hs1
  have hsup := super_ok
  have hi := inoOf_ok s1 l1
  rw [inoOfV_eq] at hi
  have hP : mntP m ↔ (s0 = superS ∧ inoB s1 ∧ (inoOf s1).k = 2) := by unfold mntP; rw [e0, e1]; exact ⟨fun q => q.2, fun q => ⟨h, q⟩⟩
  have heq := eqS s0 superS (by rw [l0]; rfl)
  have hlk := likeSS s0 superS l0 rfl
  by_cases h0 : s0 = superS
  ·rw [decide_eq_true h0] at heq
   by_cases h1 : inoB s1
   all_goals (
    first | rw [decide_eq_true h1] at hi | rw [decide_eq_false h1] at hi
    refine FnC.intro ti_ok Tryz.func95 rfl Tryz.ntmps95 Tryz.call95 rfl (Nat.le_of_ble_eq_true rfl) rfl ?_
    (repeat' ((conv=>whnf);first|with_reducible refine gA ?_|with_reducible refine at_him (x := s0) (by omega) hs0' ?_ | with_reducible refine at_him (x := s1) (by omega) hs1' ?_ | ((with_reducible refine atA_id ?_); first | refine AtA.eq (ldD_sec rfl rfl l0) ?_ | refine AtA.eq (ldD_sec rfl rfl l1) ?_) | refine CallP.mk ⟨_, hsup, ?_⟩ | ((with_reducible refine callE_id ?_); first | (refine CallE.con ⟨_, hsup, ?_⟩) | (refine CallE.con ⟨_, hi, ?_⟩)) | refine cond_tt hlk ?_ | ((with_reducible refine spl_id ?_); refine Spl.no (beqN heq) ?_)|(with_reducible first|refine gB ?_|refine gZ (fun x hx hu=>?_)|refine gY (fun x hx=>?_)|refine gE ?_|refine Both.mk ?_ ?_|refine gS (fun h=>?_) (fun h=>?_)|refine Spl.nt ?_|refine Spl.mk (fun h=>?_) (fun h=>?_))))
    all_goals first | exact bl_ff (fun q => h1 (hP.1 q).2.1) | (refine bl_of ?_; rw [beq_iff_eq, hP]; exact ⟨fun q => ⟨h0, h1, q⟩, fun q => q.2.2⟩) | skip)
  ·rw [decide_eq_false h0] at heq
   refine FnC.intro ti_ok Tryz.func95 rfl Tryz.ntmps95 Tryz.call95 rfl (Nat.le_of_ble_eq_true rfl) rfl ?_
   (repeat' ((conv=>whnf);first|with_reducible refine gA ?_|with_reducible refine at_him (x := s0) (by omega) hs0' ?_ | with_reducible refine at_him (x := s1) (by omega) hs1' ?_ | ((with_reducible refine atA_id ?_); first | refine AtA.eq (ldD_sec rfl rfl l0) ?_ | refine AtA.eq (ldD_sec rfl rfl l1) ?_) | refine CallP.mk ⟨_, hsup, ?_⟩ | ((with_reducible refine callE_id ?_); first | (refine CallE.con ⟨_, hsup, ?_⟩) | (refine CallE.con ⟨_, hi, ?_⟩)) | refine cond_tt hlk ?_ | ((with_reducible refine spl_id ?_); refine Spl.yes (beqY heq) ?_)|(with_reducible first|refine gB ?_|refine gZ (fun x hx hu=>?_)|refine gY (fun x hx=>?_)|refine gE ?_|refine Both.mk ?_ ?_|refine gS (fun h=>?_) (fun h=>?_)|refine Spl.nt ?_|refine Spl.mk (fun h=>?_) (fun h=>?_))))
   all_goals exact bl_ff (fun q => h0 (hP.1 q).1)
 ·refine FnC.intro ti_ok Tryz.func95 rfl Tryz.ntmps95 Tryz.call95 rfl (Nat.le_of_ble_eq_true rfl) rfl ?_
  (repeat' ((conv=>whnf);first|with_reducible refine gA ?_|(with_reducible first|refine gB ?_|refine gZ (fun x hx hu=>?_)|refine gY (fun x hx=>?_)|refine gE ?_|refine Both.mk ?_ ?_|refine gS (fun h=>?_) (fun h=>?_)|refine Spl.nt ?_|refine Spl.mk (fun h=>?_) (fun h=>?_))))
  all_goals first | omega | exact bl_ff (fun q => h q.1)
set_option maxHeartbeats 4000000 in
theorem refMounts_ok (m : List (List UInt8)) (hm : ImOK m) : FnC Tryz.prog 97 [.d (encM m)] (.d (.bl (decide (mntP m)))) := by
 have hml : (m.map encS).length = m.length := List.length_map ..
 by_cases h : m.length = 65
 ·obtain ⟨s0, hs0⟩ := lt_get (l := m) (k := 0) (by omega)
  obtain ⟨s1, hs1⟩ := lt_get (l := m) (k := 1) (by omega)
  have l0 := hm s0 (List.mem_of_getElem? hs0)
  have l1 := hm s1 (List.mem_of_getElem? hs1)
  have e0 : imS m 0 = s0 := by unfold imS; rw [List.getD_eq_getElem?_getD]; show (m[0]?).getD _ = _; rw [hs0]; rfl
  have e1 : imS m 1 = s1 := by unfold imS; rw [List.getD_eq_getElem?_getD]; show (m[1]?).getD _ = _; rw [hs1]; rfl
  have hs0' : m[(0 : Int).toNat]? = some s0 := hs0
  have hs1' : m[(1 : Int).toNat]? = some s1 := hs1
  have hsup := refSuper_ok
  have hi := refInoOf_ok s1 l1
  rw [inoOfV_eq] at hi
  have hP : mntP m ↔ (s0 = superS ∧ inoB s1 ∧ (inoOf s1).k = 2) := by unfold mntP; rw [e0, e1]; exact ⟨fun q => q.2, fun q => ⟨h, q⟩⟩
  have heq := eqS s0 superS (by rw [l0]; rfl)
  have hlk := likeSS s0 superS l0 rfl
  by_cases h0 : s0 = superS
  ·rw [decide_eq_true h0] at heq
   by_cases h1 : inoB s1
   all_goals (
    first | rw [decide_eq_true h1] at hi | rw [decide_eq_false h1] at hi
    refine FnC.intro ti_ok Tryz.func97 rfl Tryz.ntmps97 Tryz.call97 rfl (Nat.le_of_ble_eq_true rfl) rfl ?_
    (repeat' ((conv=>whnf);first|with_reducible refine gA ?_|with_reducible refine at_him (x := s0) (by omega) hs0' ?_ | with_reducible refine at_him (x := s1) (by omega) hs1' ?_ | ((with_reducible refine atA_id ?_); first | refine AtA.eq (ldD_sec rfl rfl l0) ?_ | refine AtA.eq (ldD_sec rfl rfl l1) ?_) | refine CallP.mk ⟨_, hsup, ?_⟩ | ((with_reducible refine callE_id ?_); first | (refine CallE.con ⟨_, hsup, ?_⟩) | (refine CallE.con ⟨_, hi, ?_⟩)) | refine cond_tt hlk ?_ | ((with_reducible refine spl_id ?_); refine Spl.no (beqN heq) ?_)|(with_reducible first|refine gB ?_|refine gZ (fun x hx hu=>?_)|refine gY (fun x hx=>?_)|refine gE ?_|refine Both.mk ?_ ?_|refine gS (fun h=>?_) (fun h=>?_)|refine Spl.nt ?_|refine Spl.mk (fun h=>?_) (fun h=>?_))))
    all_goals first | exact bl_ff (fun q => h1 (hP.1 q).2.1) | (refine bl_of ?_; rw [beq_iff_eq, hP]; exact ⟨fun q => ⟨h0, h1, q⟩, fun q => q.2.2⟩) | skip)
  ·rw [decide_eq_false h0] at heq
   refine FnC.intro ti_ok Tryz.func97 rfl Tryz.ntmps97 Tryz.call97 rfl (Nat.le_of_ble_eq_true rfl) rfl ?_
   (repeat' ((conv=>whnf);first|with_reducible refine gA ?_|with_reducible refine at_him (x := s0) (by omega) hs0' ?_ | with_reducible refine at_him (x := s1) (by omega) hs1' ?_ | ((with_reducible refine atA_id ?_); first | refine AtA.eq (ldD_sec rfl rfl l0) ?_ | refine AtA.eq (ldD_sec rfl rfl l1) ?_) | refine CallP.mk ⟨_, hsup, ?_⟩ | ((with_reducible refine callE_id ?_); first | (refine CallE.con ⟨_, hsup, ?_⟩) | (refine CallE.con ⟨_, hi, ?_⟩)) | refine cond_tt hlk ?_ | ((with_reducible refine spl_id ?_); refine Spl.yes (beqY heq) ?_)|(with_reducible first|refine gB ?_|refine gZ (fun x hx hu=>?_)|refine gY (fun x hx=>?_)|refine gE ?_|refine Both.mk ?_ ?_|refine gS (fun h=>?_) (fun h=>?_)|refine Spl.nt ?_|refine Spl.mk (fun h=>?_) (fun h=>?_))))
   all_goals exact bl_ff (fun q => h0 (hP.1 q).1)
 ·refine FnC.intro ti_ok Tryz.func97 rfl Tryz.ntmps97 Tryz.call97 rfl (Nat.le_of_ble_eq_true rfl) rfl ?_
  (repeat' ((conv=>whnf);first|with_reducible refine gA ?_|(with_reducible first|refine gB ?_|refine gZ (fun x hx hu=>?_)|refine gY (fun x hx=>?_)|refine gE ?_|refine Both.mk ?_ ?_|refine gS (fun h=>?_) (fun h=>?_)|refine Spl.nt ?_|refine Spl.mk (fun h=>?_) (fun h=>?_))))
  all_goals first | omega | exact bl_ff (fun q => h q.1)
end Go.Proofs.YthknbpijaoljgaaGreatDoor
namespace Go.Proofs.YthknbpijaoljgaaGreatDoor
open Go.Sy
def sec32 (g : Nat → UInt8) : List UInt8 := [g 0, g 1, g 2, g 3, g 4, g 5, g 6, g 7, g 8, g 9, g 10, g 11, g 12, g 13, g 14, g 15, g 16, g 17, g 18, g 19, g 20, g 21, g 22, g 23, g 24, g 25, g 26, g 27, g 28, g 29, g 30, g 31]
theorem is32 {s : List UInt8} (h : s.length = 32) : ∃ g, s = sec32 g := by
 refine ⟨fun i => s.getD i 0, ?_⟩
 refine List.ext_getElem (by rw [h]; rfl) fun i h1 h2 => ?_
 have h3 : sec32 (fun i => s.getD i 0) = (List.range 32).map (fun i => s.getD i 0) := rfl
 simp only [h3, List.getElem_map, List.getElem_range]
 rw [List.getD_eq_getElem?_getD, List.getElem?_eq_getElem h1]; rfl
theorem nilBad {K : AV → Prop} (h : K (.d (.it .i64 0))) : LookN Tryz.prog 3 3 K := ⟨.i64, 0, ⟨.i64, Tryz.underlying3⟩, fun w => Tryz.zeroValue3 w, h⟩
def encEv (w : Wr) : List D := [.it .i64 1] ++ encW w ++ [.fs 2 []]
def okW (n : Nat) (w : Wr) : Bool := decide (0 ≤ w.a ∧ w.a < n)
def wts (n : Nat) (ws : List Wr) : List Wr := (ws.filter (okW n)).map fun w => { w with e := 0 }
def dskOf (m : List (List UInt8)) (ws : List Wr) : Option Dk := if 1 ≤ m.length ∧ m.length ≤ 65 then some ⟨ws.length, m, wts m.length ws, (wts m.length ws).map encEv, 0⟩ else none
def WsOK (ws : List Wr) : Prop := ∀ w ∈ ws, w.s.length = 32
def wtsI (m : List (List UInt8)) (ws : List Wr) (i : Nat) : List Wr := wts m.length (ws.take i)
theorem wtsI_len (m : List (List UInt8)) (ws : List Wr) (i : Nat) : (wtsI m ws i).length ≤ ws.length := by
 unfold wtsI wts
 rw [List.length_map]
 exact Nat.le_trans (List.length_filter_le _ _) (by rw [List.length_take]; omega)
theorem wtsI_step (m : List (List UInt8)) {ws : List Wr} {i : Nat} {x : Wr} (hx : ws[i]? = some x) : wtsI m ws (i + 1) = if 0 ≤ x.a ∧ x.a < m.length then wtsI m ws i ++ [{ x with e := 0 }] else wtsI m ws i := by
 unfold wtsI wts
 rw [take_snoc hx, List.filter_append, List.map_append]
 by_cases h : 0 ≤ x.a ∧ x.a < m.length
 ·rw [if_pos h]
  have : okW m.length x = true := decide_eq_true h
  simp [this]
 ·rw [if_neg h]
  have : okW m.length x = false := decide_eq_false h
  simp [this]
def dA (m : List (List UInt8)) (ws : List Wr) (i : Nat) : S := ⟨[(0, .d (encM m)), (1, .d (.fs 36 (ws.map encW))), (5, .ptr 7 0), (7, .d (.it .i64 (i : Nat)))],
 [(7, .cells 6 [.d (.ot (.map none)), .d (.it .i64 (i : Nat)), .d (.fs 32 (m.map encS)), .ts 36 ((wtsI m ws i).map encW) 8, .ts 38 ((wtsI m ws i).map encEv) 9, .d (.it .i64 0)]), (8, .tail 38 true), (9, .tail 80 true)], 10⟩
set_option maxHeartbeats 8000000 in
theorem disk_ok (m : List (List UInt8)) (hm : ImOK m) (ws : List Wr) (hw : WsOK ws) (hml : m.length ≤ 1000) (hwl : ws.length ≤ 1000) : FnC Tryz.prog 7 [.d (encM m), .d (.fs 36 (ws.map encW))] (.d (encD (dskOf m ws))) := by
 have hml' : (m.map encS).length = m.length := List.length_map ..
 have hwl' : (ws.map encW).length = ws.length := List.length_map ..
 by_cases h : 1 ≤ m.length ∧ m.length ≤ 65
 ·rw [show dskOf m ws = some _ from if_pos h]
  have hne : (m.map encS).isEmpty = false := by
   cases m with
   | nil => simp at h
   | cons => rfl
  refine FnC.introW ti_ok Tryz.func7 rfl Tryz.ntmps7 Tryz.call7 rfl (Nat.le_of_ble_eq_true rfl) rfl ?_
  (repeat' ((conv=>whnf);first|with_reducible refine gA ?_|((with_reducible refine callE_id ?_); refine CallE.inl ?_) | with_reducible refine CallI.inl ti_ok i30 rfl ?_ | with_reducible refine CallI.inl ti_ok i71 rfl ?_ | with_reducible refine CallI.inl ti_ok i66 rfl ?_ | with_reducible refine Spl.no hne ?_|(with_reducible first|refine gB ?_|refine gZ (fun x hx hu=>?_)|refine gY (fun x hx=>?_)|refine gE ?_|refine Both.mk ?_ ?_|refine gS (fun h=>?_) (fun h=>?_)|refine Spl.nt ?_|refine Spl.mk (fun h=>?_) (fun h=>?_))))
  refine loop_ruleW ti_ok (fun i : Nat => i ≤ ws.length) (dA m ws) (fun i => ws.length - i) 0 (Nat.zero_le _)
   ?_ ?_
  ·refine Wk.trans (Wk.nlTs 7 3 6 36 38 (by with_unfolding_all exact rfl) (by with_unfolding_all exact rfl)) ?_
   refine Wk.trans (Wk.nlTs 7 4 6 38 80 (by with_unfolding_all exact rfl) (by with_unfolding_all exact rfl)) ?_
   exact Wk.vwL (And.intro (Vw.eq rfl) (And.intro (Vw.eq rfl) (And.intro (Vw.eq rfl) (And.intro (Vw.eq rfl) trivial))))
     (And.intro (VwO.cells _ _ _ (.cons (Vw.eq rfl) rfl (.cons (Vw.eq rfl) rfl (.cons (Vw.ts' rfl) rfl (.cons (Vw.eq rfl) rfl (.cons (Vw.eq rfl) rfl (.cons (Vw.eq rfl) rfl .nil))))))) (And.intro (VwO.same _) (And.intro (VwO.same _) trivial))) rfl
  intro i hi
  rcases Nat.lt_or_ge i ws.length with hil | hil
  ·obtain ⟨x, hx⟩ := lt_get hil
   have hxs := hw x (List.mem_of_getElem? hx)
   have hpos : m.length ≠ 0 := by omega
   have hwi : ((wtsI m ws i).map encW).length ≤ 1000 := by
    rw [List.length_map]
    exact Nat.le_trans (wtsI_len m ws i) hwl
   have hwe : ((wtsI m ws i).map encEv).length ≤ 1000 := by
    rw [List.length_map]
    exact Nat.le_trans (wtsI_len m ws i) hwl
   have hwj : (wtsI m ws i).length ≤ 1000 := Nat.le_trans (wtsI_len m ws i) hwl
   have hstep := wtsI_step m hx
   obtain ⟨xa, xs, xk, xi, xe⟩ := x
   obtain ⟨g, rfl⟩ := is32 hxs
   (repeat' ((conv=>whnf);first|with_reducible refine gA ?_|with_reducible refine at_hm hx ?_ | with_reducible refine nilBad ?_ | with_reducible refine AtA.mk' ?_ | ((with_reducible refine callE_id ?_); refine CallE.inl ?_) | ((with_reducible refine callI_id ?_); first | with_reducible refine CallI.inl ti_ok i34 rfl ?_ | with_reducible refine CallI.inl ti_ok i45 rfl ?_ | with_reducible refine CallI.inl ti_ok i76 rfl ?_ | with_reducible refine CallI.inl ti_ok i75 rfl ?_ | with_reducible refine CallI.inl ti_ok i77 rfl ?_) | ((with_reducible refine drawS_id ?_); first | refine draw_newB ti_ok mixed (by decide +kernel) ?_ | refine draw_hoist ti_ok mixed 0 (by decide +kernel) ?_)|(with_reducible first|refine gB ?_|refine gZ (fun x hx hu=>?_)|refine gY (fun x hx=>?_)|refine gE ?_|refine Both.mk ?_ ?_|refine gS (fun h=>?_) (fun h=>?_)|refine Spl.nt ?_|refine Spl.mk (fun h=>?_) (fun h=>?_))))
   all_goals refine ⟨i + 1, by omega, by dsimp only; omega, Wk.vwL (And.intro (Vw.eq rfl) (And.intro (Vw.eq rfl) (And.intro (Vw.eq rfl) (And.intro (Vw.eq (it_eq (by omega))) trivial)))) (And.intro (VwO.cells _ _ _ (.cons (Vw.eq rfl) rfl (.cons (Vw.eq (it_eq (by omega))) rfl (.cons (Vw.eq rfl) rfl (.cons (Vw.eq (ts_eq ?_)) rfl (.cons (Vw.eq (ts_eq ?_)) rfl (.cons (Vw.eq rfl) rfl .nil))))))) (And.intro (VwO.same _) (And.intro (VwO.same _) trivial))) rfl⟩
   all_goals first
    | (rw [hstep, if_pos (by dsimp only at *; omega), List.map_append]; rfl)
    | (rw [hstep, if_neg (by dsimp only at *; omega)])
  ·have hli : i = ws.length := by omega
   have hlast : wtsI m ws i = wts m.length ws := by unfold wtsI; rw [hli, List.take_length]
   (repeat' ((conv=>whnf);first|with_reducible refine gA ?_|(with_reducible first|refine gB ?_|refine gZ (fun x hx hu=>?_)|refine gY (fun x hx=>?_)|refine gE ?_|refine Both.mk ?_ ?_|refine gS (fun h=>?_) (fun h=>?_)|refine Spl.nt ?_|refine Spl.mk (fun h=>?_) (fun h=>?_))))
   refine ⟨⟨[(4, .ptr 7 0)], [(7, .cells 6 ((encDk ⟨ws.length, m, wts m.length ws, (wts m.length ws).map encEv, 0⟩).map AV.d))], 10⟩, Wk.vwL (And.intro (Vw.eq rfl) trivial) (And.intro (VwO.cells _ _ _ (.cons (Vw.an _ rfl) rfl (.cons (Vw.eq (it_eq (by dsimp only; omega))) rfl (.cons (Vw.eq rfl) rfl (.cons (Vw.ts' (by rw [hlast])) rfl (.cons (Vw.ts' (by rw [hlast])) rfl (.cons (Vw.eq rfl) rfl .nil))))))) trivial) rfl, ?_⟩
   exact ⟨_, ⟨by decide, rfl⟩, rfl⟩
 ·rw [show dskOf m ws = none from if_neg h]
  refine FnC.intro ti_ok Tryz.func7 rfl Tryz.ntmps7 Tryz.call7 rfl (Nat.le_of_ble_eq_true rfl) rfl ?_
  (repeat' ((conv=>whnf);first|with_reducible refine gA ?_|((with_reducible refine callE_id ?_); refine CallE.inl ?_) | with_reducible refine CallI.inl ti_ok i30 rfl ?_ | with_reducible refine CallI.inl ti_ok i71 rfl ?_|(with_reducible first|refine gB ?_|refine gZ (fun x hx hu=>?_)|refine gY (fun x hx=>?_)|refine gE ?_|refine Both.mk ?_ ?_|refine gS (fun h=>?_) (fun h=>?_)|refine Spl.nt ?_|refine Spl.mk (fun h=>?_) (fun h=>?_))))
  all_goals first | (exfalso; omega) | skip
  all_goals refine loop_rule ti_ok (fun i : Nat => i ≤ ws.length) (fun i : Nat => ⟨[(0, .d (encM m)), (1, .d (.fs 36 (ws.map encW))), (5, .d (.ot (.pointer none))), (7, .d (.it .i64 (i : Nat)))], [], 2⟩) (fun i => ws.length - i) 0 (Nat.zero_le _) ⟨And.intro rfl (And.intro rfl (And.intro rfl (And.intro rfl trivial))), trivial, rfl⟩ ?_
  all_goals (
   intro i hi
   rcases Nat.lt_or_ge i ws.length with hil | hil
   ·obtain ⟨x, hx⟩ := lt_get hil
    have hxs := hw x (List.mem_of_getElem? hx)
    (repeat' ((conv=>whnf);first|with_reducible refine gA ?_|with_reducible refine at_hm hx ?_ | ((with_reducible refine callE_id ?_); refine CallE.inl ?_) | ((with_reducible refine callI_id ?_); first | with_reducible refine CallI.inl ti_ok i34 rfl ?_ | with_reducible refine CallI.inl ti_ok i45 rfl ?_)|(with_reducible first|refine gB ?_|refine gZ (fun x hx hu=>?_)|refine gY (fun x hx=>?_)|refine gE ?_|refine Both.mk ?_ ?_|refine gS (fun h=>?_) (fun h=>?_)|refine Spl.nt ?_|refine Spl.mk (fun h=>?_) (fun h=>?_))))
    refine again (i + 1) (by omega) (by dsimp only; omega) (And.intro rfl (And.intro rfl (And.intro rfl (And.intro (it_eq (by omega)) trivial)))) trivial rfl
   ·(repeat' ((conv=>whnf);first|with_reducible refine gA ?_|(with_reducible first|refine gB ?_|refine gZ (fun x hx hu=>?_)|refine gY (fun x hx=>?_)|refine gE ?_|refine Both.mk ?_ ?_|refine gS (fun h=>?_) (fun h=>?_)|refine Spl.nt ?_|refine Spl.mk (fun h=>?_) (fun h=>?_))))
    rfl)
end Go.Proofs.YthknbpijaoljgaaGreatDoor
