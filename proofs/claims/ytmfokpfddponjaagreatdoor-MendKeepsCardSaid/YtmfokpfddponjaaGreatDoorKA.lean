/- Contracts of the functions that the law reaches, and the law. Conditions: none. -/
import Derived.Test.YtmfokpfddponjaaGreatDoorProg
import Derived.Test.YtmfokpfddponjaaGreatDoorSC
import Derived.KernelRfl
import Derived.Laws.Externs
import Derived.Shelf.Slices.CompactI
import Derived.Shelf.Slices.CompactS
import Derived.Shelf.Slices.In.SortNone
import Derived.Shelf.Small.Strs
import Derived.Shelf.Sort.Plain
import Derived.Shelf.Strings.Count
import Derived.Shelf.Strings.OnBuilder
import Derived.Shelf.Strings.Search2
import Derived.Shelf.Strings.Search3
import Derived.Shelf.LaysM
import Derived.Shelf.Strings.Builder1
import Derived.Shelf.Strings.Builder2
import Derived.Shelf.Small.Utf8
import Derived.Shelf.Small.Wraps
import Derived.Shelf.Strings.Search1
import Derived.Shelf.Bytes.BufferK
import Derived.Shelf.Bytes.Bytes
import Derived.Ground.Names2Prog
set_option maxRecDepth 100000
set_option linter.all false
namespace Go.Proofs.YtmfokpfddponjaaGreatDoor
open Go.Sy
def tyL : List (Nat × Ty) := [
 (0, { kd := .other, size := 1, bytes := 0, zero := [], cmp := .none, pl := [] }),
 (1, { kd := .func, size := 1, bytes := 8, zero := [.ot .nilFunc], cmp := .none, pl := [] }),
 (2, { kd := .int .i64, size := 1, bytes := 8, zero := [.it .i64 0], cmp := .some [.it .i64 0], pl := [] }),
 (3, { kd := .int .i64, size := 1, bytes := 8, zero := [.it .i64 0], cmp := .some [.it .i64 0], pl := [] }),
 (4, { kd := .bool, size := 1, bytes := 1, zero := [.bl Bool.false], cmp := .some [.bl Bool.false], pl := [] }),
 (5, { kd := .int .u8, size := 1, bytes := 1, zero := [.it .u8 0], cmp := .some [.it .u8 0], pl := [] }),
 (6, { kd := .int .u8, size := 1, bytes := 1, zero := [.it .u8 0], cmp := .some [.it .u8 0], pl := [] }),
 (7, { kd := .struct [(0, 2), (1, 3), (2, 4), (3, 6)], size := 4, bytes := 24, zero := [.it .i64 0, .it .i64 0, .bl Bool.false, .it .u8 0], cmp := .some [.it .i64 0, .it .i64 0, .bl Bool.false, .it .u8 0], pl := [(0, 1), (1, 1), (2, 1), (3, 1)] }),
 (8, { kd := .struct [(0, 2), (1, 3), (2, 4), (3, 6)], size := 4, bytes := 24, zero := [.it .i64 0, .it .i64 0, .bl Bool.false, .it .u8 0], cmp := .some [.it .i64 0, .it .i64 0, .bl Bool.false, .it .u8 0], pl := [(0, 1), (1, 1), (2, 1), (3, 1)] }),
 (9, { kd := .string, size := 1, bytes := 16, zero := [.st []], cmp := .some [.st []], pl := [] }),
 (10, { kd := .string, size := 1, bytes := 16, zero := [.st []], cmp := .some [.st []], pl := [] }),
 (11, { kd := .string, size := 1, bytes := 16, zero := [.st []], cmp := .some [.st []], pl := [] }),
 (12, { kd := .int .u64, size := 1, bytes := 8, zero := [.it .u64 0], cmp := .some [.it .u64 0], pl := [] }),
 (13, { kd := .struct [(0, 9), (1, 12)], size := 2, bytes := 24, zero := [.st [], .it .u64 0], cmp := .none, pl := [(0, 1), (1, 1)] }),
 (14, { kd := .struct [(0, 9), (1, 12)], size := 2, bytes := 24, zero := [.st [], .it .u64 0], cmp := .none, pl := [(0, 1), (1, 1)] }),
 (15, { kd := .ptr 256, size := 1, bytes := 8, zero := [.ot (.pointer .none)], cmp := .none, pl := [] }),
 (16, { kd := .ptr 259, size := 1, bytes := 8, zero := [.ot (.pointer .none)], cmp := .none, pl := [] }),
 (17, { kd := .ptr 266, size := 1, bytes := 8, zero := [.ot (.pointer .none)], cmp := .none, pl := [] }),
 (18, { kd := .struct [(0, 17)], size := 1, bytes := 8, zero := [.ot (.pointer .none)], cmp := .none, pl := [(0, 1)] }),
 (19, { kd := .struct [(0, 17)], size := 1, bytes := 8, zero := [.ot (.pointer .none)], cmp := .none, pl := [(0, 1)] }),
 (20, { kd := .other, size := 1, bytes := 16, zero := [.ot .nilIface], cmp := .none, pl := [] }),
 (21, { kd := .int .i32, size := 1, bytes := 4, zero := [.it .i32 0], cmp := .some [.it .i32 0], pl := [] }),
 (22, { kd := .slice 54, size := 1, bytes := 24, zero := [.fs 32 []], cmp := .none, pl := [] }),
 (23, { kd := .slice 58, size := 1, bytes := 24, zero := [.fs 36 []], cmp := .none, pl := [] }),
 (24, { kd := .func, size := 1, bytes := 8, zero := [.ot .nilFunc], cmp := .none, pl := [] }),
 (25, { kd := .ptr 72, size := 1, bytes := 8, zero := [.ot (.pointer .none)], cmp := .none, pl := [] }),
 (26, { kd := .func, size := 1, bytes := 8, zero := [.ot .nilFunc], cmp := .none, pl := [] }),
 (27, { kd := .func, size := 1, bytes := 8, zero := [.ot .nilFunc], cmp := .none, pl := [] }),
 (28, { kd := .int .i64, size := 1, bytes := 8, zero := [.it .i64 0], cmp := .some [.it .i64 0], pl := [] }),
 (29, { kd := .other, size := 1, bytes := 0, zero := [], cmp := .none, pl := [] }),
 (32, { kd := .other, size := 1, bytes := 0, zero := [], cmp := .none, pl := [] }),
 (34, { kd := .ptr 77, size := 1, bytes := 8, zero := [.ot (.pointer .none)], cmp := .none, pl := [] }),
 (35, { kd := .other, size := 1, bytes := 0, zero := [], cmp := .none, pl := [] }),
 (37, { kd := .slice 42, size := 1, bytes := 24, zero := [.fs 3 []], cmp := .none, pl := [] }),
 (38, { kd := .other, size := 1, bytes := 0, zero := [], cmp := .none, pl := [] }),
 (42, { kd := .struct [(0, 9), (1, 4), (2, 9)], size := 3, bytes := 40, zero := [.st [], .bl Bool.false, .st []], cmp := .some [.st [], .bl Bool.false, .st []], pl := [(0, 1), (1, 1), (2, 1)] }),
 (44, { kd := .arr 4 3, size := 4, bytes := 32, zero := [.it .i64 0, .it .i64 0, .it .i64 0, .it .i64 0], cmp := .some [.it .i64 0, .it .i64 0, .it .i64 0, .it .i64 0], pl := [] }),
 (46, { kd := .struct [(0, 3), (1, 3), (2, 44)], size := 6, bytes := 48, zero := [.it .i64 0, .it .i64 0, .it .i64 0, .it .i64 0, .it .i64 0, .it .i64 0], cmp := .some [.it .i64 0, .it .i64 0, .it .i64 0, .it .i64 0, .it .i64 0, .it .i64 0], pl := [(0, 1), (1, 1), (2, 4)] }),
 (48, { kd := .slice 5, size := 1, bytes := 24, zero := [.fs 1 []], cmp := .none, pl := [] }),
 (49, { kd := .other, size := 1, bytes := 0, zero := [], cmp := .none, pl := [] }),
 (54, { kd := .arr 32 5, size := 32, bytes := 32, zero := [.it .u8 0, .it .u8 0, .it .u8 0, .it .u8 0, .it .u8 0, .it .u8 0, .it .u8 0, .it .u8 0, .it .u8 0, .it .u8 0, .it .u8 0, .it .u8 0, .it .u8 0, .it .u8 0, .it .u8 0, .it .u8 0, .it .u8 0, .it .u8 0, .it .u8 0, .it .u8 0, .it .u8 0, .it .u8 0, .it .u8 0, .it .u8 0, .it .u8 0, .it .u8 0, .it .u8 0, .it .u8 0, .it .u8 0, .it .u8 0, .it .u8 0, .it .u8 0], cmp := .some [.it .u8 0, .it .u8 0, .it .u8 0, .it .u8 0, .it .u8 0, .it .u8 0, .it .u8 0, .it .u8 0, .it .u8 0, .it .u8 0, .it .u8 0, .it .u8 0, .it .u8 0, .it .u8 0, .it .u8 0, .it .u8 0, .it .u8 0, .it .u8 0, .it .u8 0, .it .u8 0, .it .u8 0, .it .u8 0, .it .u8 0, .it .u8 0, .it .u8 0, .it .u8 0, .it .u8 0, .it .u8 0, .it .u8 0, .it .u8 0, .it .u8 0, .it .u8 0], pl := [] }),
 (56, { kd := .struct [(0, 3), (1, 3)], size := 2, bytes := 16, zero := [.it .i64 0, .it .i64 0], cmp := .some [.it .i64 0, .it .i64 0], pl := [(0, 1), (1, 1)] }),
 (58, { kd := .struct [(0, 3), (1, 54), (33, 56), (35, 3)], size := 36, bytes := 64, zero := [.it .i64 0, .it .u8 0, .it .u8 0, .it .u8 0, .it .u8 0, .it .u8 0, .it .u8 0, .it .u8 0, .it .u8 0, .it .u8 0, .it .u8 0, .it .u8 0, .it .u8 0, .it .u8 0, .it .u8 0, .it .u8 0, .it .u8 0, .it .u8 0, .it .u8 0, .it .u8 0, .it .u8 0, .it .u8 0, .it .u8 0, .it .u8 0, .it .u8 0, .it .u8 0, .it .u8 0, .it .u8 0, .it .u8 0, .it .u8 0, .it .u8 0, .it .u8 0, .it .u8 0, .it .i64 0, .it .i64 0, .it .i64 0], cmp := .some [.it .i64 0, .it .u8 0, .it .u8 0, .it .u8 0, .it .u8 0, .it .u8 0, .it .u8 0, .it .u8 0, .it .u8 0, .it .u8 0, .it .u8 0, .it .u8 0, .it .u8 0, .it .u8 0, .it .u8 0, .it .u8 0, .it .u8 0, .it .u8 0, .it .u8 0, .it .u8 0, .it .u8 0, .it .u8 0, .it .u8 0, .it .u8 0, .it .u8 0, .it .u8 0, .it .u8 0, .it .u8 0, .it .u8 0, .it .u8 0, .it .u8 0, .it .u8 0, .it .u8 0, .it .i64 0, .it .i64 0, .it .i64 0], pl := [(0, 1), (1, 32), (33, 2), (35, 1)] }),
 (59, { kd := .other, size := 1, bytes := 0, zero := [], cmp := .none, pl := [] }),
 (62, { kd := .other, size := 1, bytes := 0, zero := [], cmp := .none, pl := [] }),
 (64, { kd := .func, size := 1, bytes := 8, zero := [.ot .nilFunc], cmp := .none, pl := [] }),
 (67, { kd := .map 3 3, size := 1, bytes := 8, zero := [.ot (.map .none)], cmp := .none, pl := [] }),
 (69, { kd := .struct [(0, 67), (1, 3)], size := 2, bytes := 16, zero := [.ot (.map .none), .it .i64 0], cmp := .none, pl := [(0, 1), (1, 1)] }),
 (70, { kd := .slice 106, size := 1, bytes := 24, zero := [.fs 38 []], cmp := .none, pl := [] }),
 (72, { kd := .struct [(0, 69), (2, 22), (3, 23), (4, 70), (5, 3)], size := 6, bytes := 96, zero := [.ot (.map .none), .it .i64 0, .fs 32 [], .fs 36 [], .fs 38 [], .it .i64 0], cmp := .none, pl := [(0, 2), (2, 1), (3, 1), (4, 1), (5, 1)] }),
 (73, { kd := .func, size := 1, bytes := 8, zero := [.ot .nilFunc], cmp := .none, pl := [] }),
 (74, { kd := .func, size := 1, bytes := 8, zero := [.ot .nilFunc], cmp := .none, pl := [] }),
 (77, { kd := .struct [(0, 25)], size := 1, bytes := 8, zero := [.ot (.pointer .none)], cmp := .none, pl := [(0, 1)] }),
 (78, { kd := .func, size := 1, bytes := 8, zero := [.ot .nilFunc], cmp := .none, pl := [] }),
 (79, { kd := .func, size := 1, bytes := 8, zero := [.ot .nilFunc], cmp := .none, pl := [] }),
 (81, { kd := .slice 9, size := 1, bytes := 24, zero := [.fs 1 []], cmp := .none, pl := [] }),
 (82, { kd := .other, size := 1, bytes := 0, zero := [], cmp := .none, pl := [] }),
 (85, { kd := .other, size := 1, bytes := 0, zero := [], cmp := .none, pl := [] }),
 (88, { kd := .other, size := 1, bytes := 0, zero := [], cmp := .none, pl := [] }),
 (90, { kd := .slice 3, size := 1, bytes := 24, zero := [.fs 1 []], cmp := .none, pl := [] }),
 (93, { kd := .other, size := 1, bytes := 0, zero := [], cmp := .none, pl := [] }),
 (97, { kd := .slice 100, size := 1, bytes := 24, zero := [.fs 2 []], cmp := .none, pl := [] }),
 (100, { kd := .struct [(0, 3), (1, 3)], size := 2, bytes := 16, zero := [.it .i64 0, .it .i64 0], cmp := .some [.it .i64 0, .it .i64 0], pl := [(0, 1), (1, 1)] }),
 (102, { kd := .func, size := 1, bytes := 8, zero := [.ot .nilFunc], cmp := .none, pl := [] }),
 (104, { kd := .slice 56, size := 1, bytes := 24, zero := [.fs 2 []], cmp := .none, pl := [] }),
 (106, { kd := .struct [(0, 3), (1, 58), (37, 104)], size := 38, bytes := 96, zero := [.it .i64 0, .it .i64 0, .it .u8 0, .it .u8 0, .it .u8 0, .it .u8 0, .it .u8 0, .it .u8 0, .it .u8 0, .it .u8 0, .it .u8 0, .it .u8 0, .it .u8 0, .it .u8 0, .it .u8 0, .it .u8 0, .it .u8 0, .it .u8 0, .it .u8 0, .it .u8 0, .it .u8 0, .it .u8 0, .it .u8 0, .it .u8 0, .it .u8 0, .it .u8 0, .it .u8 0, .it .u8 0, .it .u8 0, .it .u8 0, .it .u8 0, .it .u8 0, .it .u8 0, .it .u8 0, .it .i64 0, .it .i64 0, .it .i64 0, .fs 2 []], cmp := .none, pl := [(0, 1), (1, 36), (37, 1)] }),
 (107, { kd := .func, size := 1, bytes := 8, zero := [.ot .nilFunc], cmp := .none, pl := [] }),
 (108, { kd := .func, size := 1, bytes := 8, zero := [.ot .nilFunc], cmp := .none, pl := [] }),
 (110, { kd := .func, size := 1, bytes := 8, zero := [.ot .nilFunc], cmp := .none, pl := [] }),
 (111, { kd := .func, size := 1, bytes := 8, zero := [.ot .nilFunc], cmp := .none, pl := [] }),
 (113, { kd := .other, size := 1, bytes := 0, zero := [], cmp := .none, pl := [] }),
 (116, { kd := .struct [(0, 4), (1, 3), (2, 9), (3, 3)], size := 4, bytes := 40, zero := [.bl Bool.false, .it .i64 0, .st [], .it .i64 0], cmp := .some [.bl Bool.false, .it .i64 0, .st [], .it .i64 0], pl := [(0, 1), (1, 1), (2, 1), (3, 1)] }),
 (120, { kd := .other, size := 1, bytes := 0, zero := [], cmp := .none, pl := [] }),
 (124, { kd := .func, size := 1, bytes := 8, zero := [.ot .nilFunc], cmp := .none, pl := [] }),
 (125, { kd := .other, size := 1, bytes := 0, zero := [], cmp := .none, pl := [] }),
 (128, { kd := .int .i8, size := 1, bytes := 1, zero := [.it .i8 0], cmp := .some [.it .i8 0], pl := [] }),
 (130, { kd := .struct [(0, 48), (1, 3), (2, 128)], size := 3, bytes := 40, zero := [.fs 1 [], .it .i64 0, .it .i8 0], cmp := .none, pl := [(0, 1), (1, 1), (2, 1)] }),
 (132, { kd := .other, size := 1, bytes := 16, zero := [.ot .nilIface], cmp := .none, pl := [] }),
 (133, { kd := .other, size := 1, bytes := 0, zero := [], cmp := .none, pl := [] }),
 (137, { kd := .func, size := 1, bytes := 8, zero := [.ot .nilFunc], cmp := .none, pl := [] }),
 (138, { kd := .func, size := 1, bytes := 8, zero := [.ot .nilFunc], cmp := .none, pl := [] }),
 (139, { kd := .ptr 170, size := 1, bytes := 8, zero := [.ot (.pointer .none)], cmp := .none, pl := [] }),
 (144, { kd := .ptr 69, size := 1, bytes := 8, zero := [.ot (.pointer .none)], cmp := .none, pl := [] }),
 (145, { kd := .func, size := 1, bytes := 8, zero := [.ot .nilFunc], cmp := .none, pl := [] }),
 (147, { kd := .func, size := 1, bytes := 8, zero := [.ot .nilFunc], cmp := .none, pl := [] }),
 (148, { kd := .func, size := 1, bytes := 8, zero := [.ot .nilFunc], cmp := .none, pl := [] }),
 (152, { kd := .other, size := 1, bytes := 0, zero := [], cmp := .none, pl := [] }),
 (155, { kd := .ptr 157, size := 1, bytes := 8, zero := [.ot (.pointer .none)], cmp := .none, pl := [] }),
 (157, { kd := .struct [(0, 155), (1, 48)], size := 2, bytes := 32, zero := [.ot (.pointer .none), .fs 1 []], cmp := .none, pl := [(0, 1), (1, 1)] }),
 (163, { kd := .ptr 130, size := 1, bytes := 8, zero := [.ot (.pointer .none)], cmp := .none, pl := [] }),
 (166, { kd := .arr 16 46, size := 96, bytes := 768, zero := [.it .i64 0, .it .i64 0, .it .i64 0, .it .i64 0, .it .i64 0, .it .i64 0, .it .i64 0, .it .i64 0, .it .i64 0, .it .i64 0, .it .i64 0, .it .i64 0, .it .i64 0, .it .i64 0, .it .i64 0, .it .i64 0, .it .i64 0, .it .i64 0, .it .i64 0, .it .i64 0, .it .i64 0, .it .i64 0, .it .i64 0, .it .i64 0, .it .i64 0, .it .i64 0, .it .i64 0, .it .i64 0, .it .i64 0, .it .i64 0, .it .i64 0, .it .i64 0, .it .i64 0, .it .i64 0, .it .i64 0, .it .i64 0, .it .i64 0, .it .i64 0, .it .i64 0, .it .i64 0, .it .i64 0, .it .i64 0, .it .i64 0, .it .i64 0, .it .i64 0, .it .i64 0, .it .i64 0, .it .i64 0, .it .i64 0, .it .i64 0, .it .i64 0, .it .i64 0, .it .i64 0, .it .i64 0, .it .i64 0, .it .i64 0, .it .i64 0, .it .i64 0, .it .i64 0, .it .i64 0, .it .i64 0, .it .i64 0, .it .i64 0, .it .i64 0, .it .i64 0, .it .i64 0, .it .i64 0, .it .i64 0, .it .i64 0, .it .i64 0, .it .i64 0, .it .i64 0, .it .i64 0, .it .i64 0, .it .i64 0, .it .i64 0, .it .i64 0, .it .i64 0, .it .i64 0, .it .i64 0, .it .i64 0, .it .i64 0, .it .i64 0, .it .i64 0, .it .i64 0, .it .i64 0, .it .i64 0, .it .i64 0, .it .i64 0, .it .i64 0, .it .i64 0, .it .i64 0, .it .i64 0, .it .i64 0, .it .i64 0, .it .i64 0], cmp := .some [.it .i64 0, .it .i64 0, .it .i64 0, .it .i64 0, .it .i64 0, .it .i64 0, .it .i64 0, .it .i64 0, .it .i64 0, .it .i64 0, .it .i64 0, .it .i64 0, .it .i64 0, .it .i64 0, .it .i64 0, .it .i64 0, .it .i64 0, .it .i64 0, .it .i64 0, .it .i64 0, .it .i64 0, .it .i64 0, .it .i64 0, .it .i64 0, .it .i64 0, .it .i64 0, .it .i64 0, .it .i64 0, .it .i64 0, .it .i64 0, .it .i64 0, .it .i64 0, .it .i64 0, .it .i64 0, .it .i64 0, .it .i64 0, .it .i64 0, .it .i64 0, .it .i64 0, .it .i64 0, .it .i64 0, .it .i64 0, .it .i64 0, .it .i64 0, .it .i64 0, .it .i64 0, .it .i64 0, .it .i64 0, .it .i64 0, .it .i64 0, .it .i64 0, .it .i64 0, .it .i64 0, .it .i64 0, .it .i64 0, .it .i64 0, .it .i64 0, .it .i64 0, .it .i64 0, .it .i64 0, .it .i64 0, .it .i64 0, .it .i64 0, .it .i64 0, .it .i64 0, .it .i64 0, .it .i64 0, .it .i64 0, .it .i64 0, .it .i64 0, .it .i64 0, .it .i64 0, .it .i64 0, .it .i64 0, .it .i64 0, .it .i64 0, .it .i64 0, .it .i64 0, .it .i64 0, .it .i64 0, .it .i64 0, .it .i64 0, .it .i64 0, .it .i64 0, .it .i64 0, .it .i64 0, .it .i64 0, .it .i64 0, .it .i64 0, .it .i64 0, .it .i64 0, .it .i64 0, .it .i64 0, .it .i64 0, .it .i64 0, .it .i64 0], pl := [] }),
 (167, { kd := .arr 24 116, size := 96, bytes := 960, zero := [.bl Bool.false, .it .i64 0, .st [], .it .i64 0, .bl Bool.false, .it .i64 0, .st [], .it .i64 0, .bl Bool.false, .it .i64 0, .st [], .it .i64 0, .bl Bool.false, .it .i64 0, .st [], .it .i64 0, .bl Bool.false, .it .i64 0, .st [], .it .i64 0, .bl Bool.false, .it .i64 0, .st [], .it .i64 0, .bl Bool.false, .it .i64 0, .st [], .it .i64 0, .bl Bool.false, .it .i64 0, .st [], .it .i64 0, .bl Bool.false, .it .i64 0, .st [], .it .i64 0, .bl Bool.false, .it .i64 0, .st [], .it .i64 0, .bl Bool.false, .it .i64 0, .st [], .it .i64 0, .bl Bool.false, .it .i64 0, .st [], .it .i64 0, .bl Bool.false, .it .i64 0, .st [], .it .i64 0, .bl Bool.false, .it .i64 0, .st [], .it .i64 0, .bl Bool.false, .it .i64 0, .st [], .it .i64 0, .bl Bool.false, .it .i64 0, .st [], .it .i64 0, .bl Bool.false, .it .i64 0, .st [], .it .i64 0, .bl Bool.false, .it .i64 0, .st [], .it .i64 0, .bl Bool.false, .it .i64 0, .st [], .it .i64 0, .bl Bool.false, .it .i64 0, .st [], .it .i64 0, .bl Bool.false, .it .i64 0, .st [], .it .i64 0, .bl Bool.false, .it .i64 0, .st [], .it .i64 0, .bl Bool.false, .it .i64 0, .st [], .it .i64 0, .bl Bool.false, .it .i64 0, .st [], .it .i64 0], cmp := .some [.bl Bool.false, .it .i64 0, .st [], .it .i64 0, .bl Bool.false, .it .i64 0, .st [], .it .i64 0, .bl Bool.false, .it .i64 0, .st [], .it .i64 0, .bl Bool.false, .it .i64 0, .st [], .it .i64 0, .bl Bool.false, .it .i64 0, .st [], .it .i64 0, .bl Bool.false, .it .i64 0, .st [], .it .i64 0, .bl Bool.false, .it .i64 0, .st [], .it .i64 0, .bl Bool.false, .it .i64 0, .st [], .it .i64 0, .bl Bool.false, .it .i64 0, .st [], .it .i64 0, .bl Bool.false, .it .i64 0, .st [], .it .i64 0, .bl Bool.false, .it .i64 0, .st [], .it .i64 0, .bl Bool.false, .it .i64 0, .st [], .it .i64 0, .bl Bool.false, .it .i64 0, .st [], .it .i64 0, .bl Bool.false, .it .i64 0, .st [], .it .i64 0, .bl Bool.false, .it .i64 0, .st [], .it .i64 0, .bl Bool.false, .it .i64 0, .st [], .it .i64 0, .bl Bool.false, .it .i64 0, .st [], .it .i64 0, .bl Bool.false, .it .i64 0, .st [], .it .i64 0, .bl Bool.false, .it .i64 0, .st [], .it .i64 0, .bl Bool.false, .it .i64 0, .st [], .it .i64 0, .bl Bool.false, .it .i64 0, .st [], .it .i64 0, .bl Bool.false, .it .i64 0, .st [], .it .i64 0, .bl Bool.false, .it .i64 0, .st [], .it .i64 0, .bl Bool.false, .it .i64 0, .st [], .it .i64 0], pl := [] }),
 (168, { kd := .arr 16 4, size := 16, bytes := 16, zero := [.bl Bool.false, .bl Bool.false, .bl Bool.false, .bl Bool.false, .bl Bool.false, .bl Bool.false, .bl Bool.false, .bl Bool.false, .bl Bool.false, .bl Bool.false, .bl Bool.false, .bl Bool.false, .bl Bool.false, .bl Bool.false, .bl Bool.false, .bl Bool.false], cmp := .some [.bl Bool.false, .bl Bool.false, .bl Bool.false, .bl Bool.false, .bl Bool.false, .bl Bool.false, .bl Bool.false, .bl Bool.false, .bl Bool.false, .bl Bool.false, .bl Bool.false, .bl Bool.false, .bl Bool.false, .bl Bool.false, .bl Bool.false, .bl Bool.false], pl := [] }),
 (170, { kd := .struct [(0, 25), (1, 166), (97, 167), (193, 168)], size := 209, bytes := 1752, zero := [.ot (.pointer .none), .it .i64 0, .it .i64 0, .it .i64 0, .it .i64 0, .it .i64 0, .it .i64 0, .it .i64 0, .it .i64 0, .it .i64 0, .it .i64 0, .it .i64 0, .it .i64 0, .it .i64 0, .it .i64 0, .it .i64 0, .it .i64 0, .it .i64 0, .it .i64 0, .it .i64 0, .it .i64 0, .it .i64 0, .it .i64 0, .it .i64 0, .it .i64 0, .it .i64 0, .it .i64 0, .it .i64 0, .it .i64 0, .it .i64 0, .it .i64 0, .it .i64 0, .it .i64 0, .it .i64 0, .it .i64 0, .it .i64 0, .it .i64 0, .it .i64 0, .it .i64 0, .it .i64 0, .it .i64 0, .it .i64 0, .it .i64 0, .it .i64 0, .it .i64 0, .it .i64 0, .it .i64 0, .it .i64 0, .it .i64 0, .it .i64 0, .it .i64 0, .it .i64 0, .it .i64 0, .it .i64 0, .it .i64 0, .it .i64 0, .it .i64 0, .it .i64 0, .it .i64 0, .it .i64 0, .it .i64 0, .it .i64 0, .it .i64 0, .it .i64 0, .it .i64 0, .it .i64 0, .it .i64 0, .it .i64 0, .it .i64 0, .it .i64 0, .it .i64 0, .it .i64 0, .it .i64 0, .it .i64 0, .it .i64 0, .it .i64 0, .it .i64 0, .it .i64 0, .it .i64 0, .it .i64 0, .it .i64 0, .it .i64 0, .it .i64 0, .it .i64 0, .it .i64 0, .it .i64 0, .it .i64 0, .it .i64 0, .it .i64 0, .it .i64 0, .it .i64 0, .it .i64 0, .it .i64 0, .it .i64 0, .it .i64 0, .it .i64 0, .it .i64 0, .bl Bool.false, .it .i64 0, .st [], .it .i64 0, .bl Bool.false, .it .i64 0, .st [], .it .i64 0, .bl Bool.false, .it .i64 0, .st [], .it .i64 0, .bl Bool.false, .it .i64 0, .st [], .it .i64 0, .bl Bool.false, .it .i64 0, .st [], .it .i64 0, .bl Bool.false, .it .i64 0, .st [], .it .i64 0, .bl Bool.false, .it .i64 0, .st [], .it .i64 0, .bl Bool.false, .it .i64 0, .st [], .it .i64 0, .bl Bool.false, .it .i64 0, .st [], .it .i64 0, .bl Bool.false, .it .i64 0, .st [], .it .i64 0, .bl Bool.false, .it .i64 0, .st [], .it .i64 0, .bl Bool.false, .it .i64 0, .st [], .it .i64 0, .bl Bool.false, .it .i64 0, .st [], .it .i64 0, .bl Bool.false, .it .i64 0, .st [], .it .i64 0, .bl Bool.false, .it .i64 0, .st [], .it .i64 0, .bl Bool.false, .it .i64 0, .st [], .it .i64 0, .bl Bool.false, .it .i64 0, .st [], .it .i64 0, .bl Bool.false, .it .i64 0, .st [], .it .i64 0, .bl Bool.false, .it .i64 0, .st [], .it .i64 0, .bl Bool.false, .it .i64 0, .st [], .it .i64 0, .bl Bool.false, .it .i64 0, .st [], .it .i64 0, .bl Bool.false, .it .i64 0, .st [], .it .i64 0, .bl Bool.false, .it .i64 0, .st [], .it .i64 0, .bl Bool.false, .it .i64 0, .st [], .it .i64 0, .bl Bool.false, .bl Bool.false, .bl Bool.false, .bl Bool.false, .bl Bool.false, .bl Bool.false, .bl Bool.false, .bl Bool.false, .bl Bool.false, .bl Bool.false, .bl Bool.false, .bl Bool.false, .bl Bool.false, .bl Bool.false, .bl Bool.false, .bl Bool.false], cmp := .none, pl := [(0, 1), (1, 96), (97, 96), (193, 16)] }),
 (171, { kd := .func, size := 1, bytes := 8, zero := [.ot .nilFunc], cmp := .none, pl := [] }),
 (172, { kd := .func, size := 1, bytes := 8, zero := [.ot .nilFunc], cmp := .none, pl := [] }),
 (175, { kd := .func, size := 1, bytes := 8, zero := [.ot .nilFunc], cmp := .none, pl := [] }),
 (178, { kd := .int .u64, size := 1, bytes := 8, zero := [.it .u64 0], cmp := .some [.it .u64 0], pl := [] }),
 (184, { kd := .ptr 5, size := 1, bytes := 8, zero := [.ot (.pointer .none)], cmp := .none, pl := [] }),
 (190, { kd := .arr 256 4, size := 256, bytes := 256, zero := List.replicate 256 (.bl Bool.false), cmp := .some (List.replicate 256 (.bl Bool.false)), pl := [] }),
 (191, { kd := .other, size := 1, bytes := 0, zero := [], cmp := .none, pl := [] }),
 (194, { kd := .ptr 190, size := 1, bytes := 8, zero := [.ot (.pointer .none)], cmp := .none, pl := [] }),
 (200, { kd := .func, size := 1, bytes := 8, zero := [.ot .nilFunc], cmp := .none, pl := [] }),
 (202, { kd := .func, size := 1, bytes := 8, zero := [.ot .nilFunc], cmp := .none, pl := [] }),
 (205, { kd := .int .i64, size := 1, bytes := 8, zero := [.it .i64 0], cmp := .some [.it .i64 0], pl := [] }),
 (206, { kd := .other, size := 1, bytes := 0, zero := [], cmp := .none, pl := [] }),
 (212, { kd := .int .u32, size := 1, bytes := 4, zero := [.it .u32 0], cmp := .some [.it .u32 0], pl := [] }),
 (214, { kd := .int .u64, size := 1, bytes := 8, zero := [.it .u64 0], cmp := .some [.it .u64 0], pl := [] }),
 (215, { kd := .usafe, size := 1, bytes := 8, zero := [.ot (.pointer .none)], cmp := .none, pl := [] }),
 (226, { kd := .slice 116, size := 1, bytes := 24, zero := [.fs 4 []], cmp := .none, pl := [] }),
 (227, { kd := .int .u64, size := 1, bytes := 8, zero := [.it .u64 0], cmp := .some [.it .u64 0], pl := [] }),
 (231, { kd := .ptr 3, size := 1, bytes := 8, zero := [.ot (.pointer .none)], cmp := .none, pl := [] }),
 (241, { kd := .ptr 227, size := 1, bytes := 8, zero := [.ot (.pointer .none)], cmp := .none, pl := [] }),
 (242, { kd := .other, size := 1, bytes := 0, zero := [], cmp := .none, pl := [] }),
 (248, { kd := .other, size := 1, bytes := 0, zero := [], cmp := .none, pl := [] }),
 (254, { kd := .ptr 268, size := 1, bytes := 8, zero := [.ot (.pointer .none)], cmp := .none, pl := [] }),
 (256, { kd := .struct [(0, 17), (1, 17), (2, 17), (3, 9)], size := 4, bytes := 40, zero := [.ot (.pointer .none), .ot (.pointer .none), .ot (.pointer .none), .st []], cmp := .none, pl := [(0, 1), (1, 1), (2, 1), (3, 1)] }),
 (257, { kd := .arr 0 16, size := 0, bytes := 0, zero := [], cmp := .none, pl := [] }),
 (259, { kd := .struct [(0, 257)], size := 0, bytes := 0, zero := [], cmp := .none, pl := [(0, 0)] }),
 (260, { kd := .int .u8, size := 1, bytes := 1, zero := [.it .u8 0], cmp := .some [.it .u8 0], pl := [] }),
 (261, { kd := .int .u8, size := 1, bytes := 1, zero := [.it .u8 0], cmp := .some [.it .u8 0], pl := [] }),
 (262, { kd := .func, size := 1, bytes := 8, zero := [.ot .nilFunc], cmp := .none, pl := [] }),
 (263, { kd := .int .i32, size := 1, bytes := 4, zero := [.it .i32 0], cmp := .some [.it .i32 0], pl := [] }),
 (264, { kd := .int .i32, size := 1, bytes := 4, zero := [.it .i32 0], cmp := .some [.it .i32 0], pl := [] }),
 (266, { kd := .struct [(0, 12), (1, 12), (2, 212), (3, 260), (4, 5), (5, 5), (6, 261), (7, 262), (8, 184), (9, 263), (10, 264)], size := 11, bytes := 48, zero := [.it .u64 0, .it .u64 0, .it .u32 0, .it .u8 0, .it .u8 0, .it .u8 0, .it .u8 0, .ot .nilFunc, .ot (.pointer .none), .it .i32 0, .it .i32 0], cmp := .none, pl := [(0, 1), (1, 1), (2, 1), (3, 1), (4, 1), (5, 1), (6, 1), (7, 1), (8, 1), (9, 1), (10, 1)] }),
 (268, { kd := .struct [(0, 9)], size := 1, bytes := 16, zero := [.st []], cmp := .some [.st []], pl := [(0, 1)] })]
def ti (t : Nat) : Option Ty := Go.Sy.look t tyL
theorem tyL_ok : tyL.map (fun p => tyOf Tryz.prog p.1) = tyL.map (fun p => some p.2) := by kernel_rfl
theorem ti_ok : TiOK Tryz.prog ti := tiOK_of tyL_ok
end Go.Proofs.YtmfokpfddponjaaGreatDoor
namespace Go.Proofs.YtmfokpfddponjaaGreatDoor
open Go.Sy
theorem i2 : FnI Tryz.prog 2 1 [] (bd Tryz.f2) := FnI.mk' Tryz.func2 rfl rfl rfl Tryz.call2
theorem i3 : FnI Tryz.prog 3 158 [.tmp 4] (bd Tryz.f3) := FnI.mk' Tryz.func3 rfl rfl rfl Tryz.call3
theorem i4 : FnI Tryz.prog 4 60 [.tmp 0] (bd Tryz.f4) := FnI.mk' Tryz.func4 rfl rfl rfl Tryz.call4
theorem i5 : FnI Tryz.prog 5 37 [.tmp 4] (bd Tryz.f5) := FnI.mk' Tryz.func5 rfl rfl rfl Tryz.call5
theorem i6 : FnI Tryz.prog 6 25 [.tmp 2] (bd Tryz.f6) := FnI.mk' Tryz.func6 rfl rfl rfl Tryz.call6
theorem i7 : FnI Tryz.prog 7 19 [.tmp 2, .tmp 3] (bd Tryz.f7) := FnI.mk' Tryz.func7 rfl rfl rfl Tryz.call7
theorem i8 : FnI Tryz.prog 8 22 [.tmp 2] (bd Tryz.f8) := FnI.mk' Tryz.func8 rfl rfl rfl Tryz.call8
theorem i9 : FnI Tryz.prog 9 28 [.cell 2 3, .cell 3 28] (bd Tryz.f9) := FnI.mk' Tryz.func9 rfl rfl rfl Tryz.call9
theorem i18 : FnI Tryz.prog 18 46 [.tmp 8] (bd Tryz.f18) := FnI.mk' Tryz.func18 rfl rfl rfl Tryz.call18
theorem i20 : FnI Tryz.prog 20 28 [.tmp 2] (bd Tryz.f20) := FnI.mk' Tryz.func20 rfl rfl rfl Tryz.call20
theorem i21 : FnI Tryz.prog 21 14 [.tmp 2, .tmp 3] (bd Tryz.f21) := FnI.mk' Tryz.func21 rfl rfl rfl Tryz.call21
theorem i22 : FnI Tryz.prog 22 8 [.tmp 2] (bd Tryz.f22) := FnI.mk' Tryz.func22 rfl rfl rfl Tryz.call22
theorem i23 : FnI Tryz.prog 23 4 [.tmp 2] (bd Tryz.f23) := FnI.mk' Tryz.func23 rfl rfl rfl Tryz.call23
theorem i25 : FnI Tryz.prog 25 8 [.tmp 6] (bd Tryz.f25) := FnI.mk' Tryz.func25 rfl rfl rfl Tryz.call25
theorem i32 : FnI Tryz.prog 32 19 [.cell 4 54] (bd Tryz.f32) := FnI.mk' Tryz.func32 rfl rfl rfl Tryz.call32
theorem i34 : FnI Tryz.prog 34 8 [.tmp 2] (bd Tryz.f34) := FnI.mk' Tryz.func34 rfl rfl rfl Tryz.call34
theorem i37 : FnI Tryz.prog 37 46 [.cell 4 58] (bd Tryz.f37) := FnI.mk' Tryz.func37 rfl rfl rfl Tryz.call37
theorem i39 : FnI Tryz.prog 39 13 [.tmp 2] (bd Tryz.f39) := FnI.mk' Tryz.func39 rfl rfl rfl Tryz.call39
theorem i40 : FnI Tryz.prog 40 22 [.tmp 2] (bd Tryz.f40) := FnI.mk' Tryz.func40 rfl rfl rfl Tryz.call40
theorem i41 : FnI Tryz.prog 41 21 [.tmp 4] (bd Tryz.f41) := FnI.mk' Tryz.func41 rfl rfl rfl Tryz.call41
theorem i42 : FnI Tryz.prog 42 15 [.tmp 4] (bd Tryz.f42) := FnI.mk' Tryz.func42 rfl rfl rfl Tryz.call42
theorem i43 : FnI Tryz.prog 43 4 [.tmp 2] (bd Tryz.f43) := FnI.mk' Tryz.func43 rfl rfl rfl Tryz.call43
theorem i45 : FnI Tryz.prog 45 18 [] (bd Tryz.f45) := FnI.mk' Tryz.func45 rfl rfl rfl Tryz.call45
theorem i46 : FnI Tryz.prog 46 72 [] (bd Tryz.f46) := FnI.mk' Tryz.func46 rfl rfl rfl Tryz.call46
theorem i54 : FnI Tryz.prog 54 9 [.tmp 4] (bd Tryz.f54) := FnI.mk' Tryz.func54 rfl rfl rfl Tryz.call54
theorem i55 : FnI Tryz.prog 55 6 [.tmp 2] (bd Tryz.f55) := FnI.mk' Tryz.func55 rfl rfl rfl Tryz.call55
theorem i61 : FnI Tryz.prog 61 5 [.tmp 2] (bd Tryz.f61) := FnI.mk' Tryz.func61 rfl rfl rfl Tryz.call61
theorem i63 : FnI Tryz.prog 63 4 [.tmp 2] (bd Tryz.f63) := FnI.mk' Tryz.func63 rfl rfl rfl Tryz.call63
theorem i64 : FnI Tryz.prog 64 19 [.tmp 4] (bd Tryz.f64) := FnI.mk' Tryz.func64 rfl rfl rfl Tryz.call64
theorem i66 : FnI Tryz.prog 66 19 [] (bd Tryz.f66) := FnI.mk' Tryz.func66 rfl rfl rfl Tryz.call66
theorem i67 : FnI Tryz.prog 67 9 [.cell 2 54, .tmp 3] (bd Tryz.f67) := FnI.mk' Tryz.func67 rfl rfl rfl Tryz.call67
theorem i68 : FnI Tryz.prog 68 6 [.tmp 4] (bd Tryz.f68) := FnI.mk' Tryz.func68 rfl rfl rfl Tryz.call68
theorem i73 : FnI Tryz.prog 73 19 [.tmp 4, .tmp 5] (bd Tryz.f73) := FnI.mk' Tryz.func73 rfl rfl rfl Tryz.call73
theorem i74 : FnI Tryz.prog 74 14 [.tmp 2] (bd Tryz.f74) := FnI.mk' Tryz.func74 rfl rfl rfl Tryz.call74
theorem i75 : FnI Tryz.prog 75 15 [.tmp 4, .tmp 5] (bd Tryz.f75) := FnI.mk' Tryz.func75 rfl rfl rfl Tryz.call75
theorem i77 : FnI Tryz.prog 77 19 [.tmp 4] (bd Tryz.f77) := FnI.mk' Tryz.func77 rfl rfl rfl Tryz.call77
theorem i80 : FnI Tryz.prog 80 33 [.tmp 4, .tmp 5] (bd Tryz.f80) := FnI.mk' Tryz.func80 rfl rfl rfl Tryz.call80
theorem i82 : FnI Tryz.prog 82 13 [.tmp 4] (bd Tryz.f82) := FnI.mk' Tryz.func82 rfl rfl rfl Tryz.call82
theorem i84 : FnI Tryz.prog 84 41 [] (bd Tryz.f84) := FnI.mk' Tryz.func84 rfl rfl rfl Tryz.call84
theorem i87 : FnI Tryz.prog 87 4 [.tmp 2] (bd Tryz.f87) := FnI.mk' Tryz.func87 rfl rfl rfl Tryz.call87
theorem i88 : FnI Tryz.prog 88 19 [.cell 6 54, .tmp 7] (bd Tryz.f88) := FnI.mk' Tryz.func88 rfl rfl rfl Tryz.call88
theorem i89 : FnI Tryz.prog 89 29 [] (bd Tryz.f89) := FnI.mk' Tryz.func89 rfl rfl rfl Tryz.call89
theorem i91 : FnI Tryz.prog 91 8 [.tmp 2] (bd Tryz.f91) := FnI.mk' Tryz.func91 rfl rfl rfl Tryz.call91
theorem i93 : FnI Tryz.prog 93 17 [.tmp 6] (bd Tryz.f93) := FnI.mk' Tryz.func93 rfl rfl rfl Tryz.call93
theorem i97 : FnI Tryz.prog 97 20 [] (bd Tryz.f97) := FnI.mk' Tryz.func97 rfl rfl rfl Tryz.call97
theorem i105 : FnI Tryz.prog 105 16 [.tmp 4] (bd Tryz.f105) := FnI.mk' Tryz.func105 rfl rfl rfl Tryz.call105
theorem i106 : FnI Tryz.prog 106 22 [.tmp 4] (bd Tryz.f106) := FnI.mk' Tryz.func106 rfl rfl rfl Tryz.call106
theorem i109 : FnI Tryz.prog 109 8 [.tmp 2] (bd Tryz.f109) := FnI.mk' Tryz.func109 rfl rfl rfl Tryz.call109
theorem i111 : FnI Tryz.prog 111 9 [.tmp 2] (bd Tryz.f111) := FnI.mk' Tryz.func111 rfl rfl rfl Tryz.call111
theorem i112 : FnI Tryz.prog 112 9 [.tmp 4] (bd Tryz.f112) := FnI.mk' Tryz.func112 rfl rfl rfl Tryz.call112
theorem i113 : FnI Tryz.prog 113 5 [.tmp 2] (bd Tryz.f113) := FnI.mk' Tryz.func113 rfl rfl rfl Tryz.call113
theorem i114 : FnI Tryz.prog 114 11 [] (bd Tryz.f114) := FnI.mk' Tryz.func114 rfl rfl rfl Tryz.call114
theorem i115 : FnI Tryz.prog 115 61 [.tmp 2] (bd Tryz.f115) := FnI.mk' Tryz.func115 rfl rfl rfl Tryz.call115
theorem i121 : FnI Tryz.prog 121 25 [.tmp 6] (bd Tryz.f121) := FnI.mk' Tryz.func121 rfl rfl rfl Tryz.call121
theorem i122 : FnI Tryz.prog 122 17 [.tmp 4] (bd Tryz.f122) := FnI.mk' Tryz.func122 rfl rfl rfl Tryz.call122
theorem i123 : FnI Tryz.prog 123 10 [.tmp 4] (bd Tryz.f123) := FnI.mk' Tryz.func123 rfl rfl rfl Tryz.call123
theorem i124 : FnI Tryz.prog 124 9 [.tmp 4] (bd Tryz.f124) := FnI.mk' Tryz.func124 rfl rfl rfl Tryz.call124
theorem i125 : FnI Tryz.prog 125 21 [] (bd Tryz.f125) := FnI.mk' Tryz.func125 rfl rfl rfl Tryz.call125
theorem i130 : FnI Tryz.prog 130 57 [.tmp 6, .tmp 7] (bd Tryz.f130) := FnI.mk' Tryz.func130 rfl rfl rfl Tryz.call130
theorem i131 : FnI Tryz.prog 131 32 [] (bd Tryz.f131) := FnI.mk' Tryz.func131 rfl rfl rfl Tryz.call131
theorem i145 : FnI Tryz.prog 145 10 [.tmp 4] (bd Tryz.f145) := FnI.mk' Tryz.func145 rfl rfl rfl Tryz.call145
theorem i148 : FnI Tryz.prog 148 19 [.tmp 4] (bd Tryz.f148) := FnI.mk' Tryz.func148 rfl rfl rfl Tryz.call148
theorem i149 : FnI Tryz.prog 149 134 [] (bd Tryz.f149) := FnI.mk' Tryz.func149 rfl rfl rfl Tryz.call149
theorem i151 : FnI Tryz.prog 151 9 [.tmp 4] (bd Tryz.f151) := FnI.mk' Tryz.func151 rfl rfl rfl Tryz.call151
theorem i152 : FnI Tryz.prog 152 13 [.tmp 4] (bd Tryz.f152) := FnI.mk' Tryz.func152 rfl rfl rfl Tryz.call152
theorem i159 : FnI Tryz.prog 159 12 [.tmp 4] (bd Tryz.f159) := FnI.mk' Tryz.func159 rfl rfl rfl Tryz.call159
theorem i168 : FnI Tryz.prog 168 49 [] (bd Tryz.f168) := FnI.mk' Tryz.func168 rfl rfl rfl Tryz.call168
theorem i177 : FnI Tryz.prog 177 19 [.tmp 4] (bd Tryz.f177) := FnI.mk' Tryz.func177 rfl rfl rfl Tryz.call177
end Go.Proofs.YtmfokpfddponjaaGreatDoor
namespace Go.Proofs.YtmfokpfddponjaaGreatDoor
open Go.Sy
def signB (c : UInt8) : Bool := decide (97 ≤ c.toNat ∧ c.toNat ≤ 122 ∨ 48 ≤ c.toNat ∧ c.toNat ≤ 57 ∨ c.toNat = 46 ∨ c.toNat = 95)
def nameB (s : List UInt8) : Bool := decide (1 ≤ s.length ∧ s.length ≤ 8 ∧ s ≠ [46] ∧ s ≠ [46, 46]) && s.all signB
def wordsC (c : UInt8) : List UInt8 → List (List UInt8)
 | [] => [[]]
 | b :: t => if b = c then [] :: wordsC c t else match wordsC c t with
  | [] => [[b]]
  | w :: r => (b :: w) :: r
def splitP (p : List UInt8) : List (List UInt8) × Int :=
 if p = [47] then ([], 0) else
 match p with
 | [] => ([], 9)
 | b :: r => if b = 47 then (if (wordsC 47 r).length ≤ 4 ∧ (wordsC 47 r).all nameB = true then (wordsC 47 r, 0) else ([], 9)) else ([], 9)
def joinP (l : List (List UInt8)) : List UInt8 := (l.map (fun w => 47 :: w)).flatten
structure Nod where
 p : List UInt8
 d : Bool
 x : List UInt8
deriving DecidableEq
def encN (n : Nod) : List D := [.st n.p, .bl n.d, .st n.x]
structure Chg where
 k : Int
 a : Nod
 b : Nod
deriving DecidableEq
def key (p : List UInt8) : List (List UInt8) := (splitP p).1
def cmpS (a b : List UInt8) : Int := if Op.bytesLess a b = true then -1 else if Op.bytesLess b a = true then 1 else 0
def cmpN : List (List UInt8) → List (List UInt8) → Int
 | [], [] => 0
 | [], _ :: _ => -1
 | _ :: _, [] => 1
 | x :: a, y :: b => if cmpS x y = 0 then cmpN a b else cmpS x y
def befN : List (List UInt8) → List (List UInt8) → Bool
 | x :: a, y :: b => if x = y then befN a b else Op.bytesLess x y
 | [], _ :: _ => true
 | _, [] => false
theorem less_irr : ∀ a : List UInt8, Op.bytesLess a a = false
 | [] => rfl
 | a :: t => by simp [Op.bytesLess, less_irr t]
theorem less_tri : ∀ a b : List UInt8, Op.bytesLess a b = false → Op.bytesLess b a = false → a = b
 | [], [], _, _ => rfl
 | [], _ :: _, h, _ => by simp [Op.bytesLess] at h
 | _ :: _, [], _, h => by simp [Op.bytesLess] at h
 | a :: s, b :: t, h, k => by
  simp only [Op.bytesLess, Bool.or_eq_false_iff, Bool.and_eq_false_iff, decide_eq_false_iff_not, beq_eq_false_iff_ne] at h k
  obtain ⟨h1, h2⟩ := h
  obtain ⟨k1, k2⟩ := k
  have e : a = b := by
   apply UInt8.toNat_inj.1
   rw [UInt8.lt_iff_toNat_lt] at h1 k1
   omega
  subst e
  rcases h2 with h2 | h2
  ·exact absurd rfl h2
  rcases k2 with k2 | k2
  ·exact absurd rfl k2
  rw [less_tri s t h2 k2]
theorem less_trans : ∀ a b c : List UInt8, Op.bytesLess a b = true → Op.bytesLess b c = true → Op.bytesLess a c = true
 | _, _, [], _, h => by simp [Op.bytesLess] at h
 | _, [], _ :: _, h, _ => by simp [Op.bytesLess] at h
 | [], _ :: _, _ :: _, _, _ => rfl
 | a :: s, b :: t, c :: u, h, k => by
  simp only [Op.bytesLess, Bool.or_eq_true, Bool.and_eq_true, decide_eq_true_eq, beq_iff_eq, UInt8.lt_iff_toNat_lt] at h k ⊢
  rcases h with h | ⟨rfl, h⟩
  ·rcases k with k | ⟨rfl, k⟩
   ·exact .inl (by omega)
   ·exact .inl h
  ·rcases k with k | ⟨rfl, k⟩
   ·exact .inl k
   ·exact .inr ⟨rfl, less_trans s t u h k⟩
theorem less_asy (a b : List UInt8) (h : Op.bytesLess a b = true) : Op.bytesLess b a = false := by
 cases hb : Op.bytesLess b a with
 | false => rfl
 | true => have := less_trans _ _ _ h hb; rw [less_irr] at this; cases this
theorem wordsC_ne (c : UInt8) (s : List UInt8) : wordsC c s ≠ [] := by
 cases s with
 | nil => simp [wordsC]
 | cons b t =>
  rw [wordsC]
  split
  ·simp
  ·split <;> simp
theorem joinP_words (s : List UInt8) : joinP (wordsC 47 s) = 47 :: s := by
 induction s with
 | nil => rfl
 | cons b t ih =>
  rw [wordsC]
  split
  ·rename_i h; subst h
   show 47 :: ([] ++ joinP (wordsC 47 t)) = _
   rw [ih]; rfl
  ·cases ht : wordsC 47 t with
   | nil => exact absurd ht (wordsC_ne 47 t)
   | cons w r =>
    rw [ht] at ih
    have e : joinP (w :: r) = 47 :: (w ++ joinP r) := rfl
    have e' : joinP ((b :: w) :: r) = 47 :: b :: (w ++ joinP r) := rfl
    rw [e] at ih
    simp only [e']
    rw [List.cons.inj ih |>.2]
def lt (x y : Nod) : Prop := cmpN (key x.p) (key y.p) < 0
def atP (l : List Nod) (p : List UInt8) : Option Nod := l.find? (fun x => x.p == p)
def allD (a b : List Nod) : List Nod := a ++ b.filter (fun y => (atP a y.p).isNone)
end Go.Proofs.YtmfokpfddponjaaGreatDoor
namespace Go.Proofs.YtmfokpfddponjaaGreatDoor
open Go.Sy
theorem mixed : Tryz.prog.follows .mixedOrders = true := by kernel_rfl
theorem gA {p q : Prop} (k : q) (h : q → p := by intro k; with_reducible first | exact Spl.tt k | exact Spl.ff k) : p := h k
theorem gB {p q : Prop} (k : q) (h : q → p := by intro k; with_reducible first | exact draw_auto ti_ok mixed (by decide +kernel) k | exact g_i64 k | exact g_u64 k | exact g_u8 k | exact g_iq k | exact g_uq k | exact g_rem k | exact LetN.mk k | exact g_hm k | exact g_hb k | exact g_lit k) : p := h k
theorem gZ {p : Prop} {α : Type} {A B C : α → Prop} (k : ∀ x, A x → B x → C x) (h : (∀ x, A x → B x → C x) → p := by intro k; with_reducible first | exact g_nm8 k | exact g_n8 k | exact g_b8 k) : p := h k
theorem gY {p : Prop} {α : Type} {A B : α → Prop} (k : ∀ x, A x → B x) (h : (∀ x, A x → B x) → p := by intro k; with_reducible first | exact g_nm k | exact g_im k | exact g_n k | exact g_b k) : p := h k
theorem gE {p q : Prop} (k : q) (h : q → p := by intro k; with_reducible first | exact g_and k | exact g_c k | exact NilS.ts k | exact LetE.now k | exact AtD.now k | exact LetC.now k | exact g_some k | exact g_yk k | exact g_nk k | exact g_y k | exact g_f k | exact AtA.mk' k) : p := h k
theorem gS {p a b A B : Prop} (k : a → A) (l : b → B) (h : (a → A) → (b → B) → p := by intro k l; with_reducible first | exact Spl.pd k l | exact Spl.peq k l | exact Spl.pne k l | exact Spl.seq k l | exact Spl.sne k l) : p := h k l
theorem noEsc (u : Value) (w : World) : (callFunc 140 #[u]).run Tryz.prog w = .ok (.value u) w := by
 rw [run_callFunc_extern Tryz.func140 (by kernel_rfl) (by kernel_rfl) (by kernel_rfl) (e := Extern.AbiNoEscape.same) (by kernel_rfl), Lib.run_noEscape]
 rfl
theorem nameB_no {s : List UInt8} (h : ¬ (1 ≤ s.length ∧ s.length ≤ 8 ∧ s ≠ [46] ∧ s ≠ [46, 46])) : nameB s = false := by rw [nameB, decide_eq_false h]; rfl
theorem nameB_yes {s : List UInt8} (h1 : 1 ≤ s.length) (h2 : s.length ≤ 8) (h3 : ¬ s = [46]) (h4 : ¬ s = [46, 46]) : nameB s = s.all signB := by rw [nameB, decide_eq_true ⟨h1, h2, h3, h4⟩]; rfl
def signs : List UInt8 := [97, 98, 99, 100, 101, 102, 103, 104, 105, 106, 107, 108, 109, 110, 111, 112, 113, 114, 115, 116, 117, 118, 119, 120, 121, 122, 48, 49, 50, 51, 52, 53, 54, 55, 56, 57, 46, 95]
def tabS (l : List UInt8) : List D := (List.range 256).map fun j => .bl (l.any fun c => c.toNat == j)
theorem all_d (l : List D) (m : Nat) : (l.map AV.d).all (AV.lt1 m) = true := by
 rw [List.all_eq_true]
 intro x hx
 obtain ⟨b, _, rfl⟩ := List.mem_map.1 hx
 rfl
theorem tabS_upd {l : List UInt8} {c : UInt8} : ((tabS l).map AV.d).take c.toNat ++ [AV.d (.bl true)] ++ ((tabS l).map AV.d).drop (c.toNat + 1) = (tabS (l ++ [c])).map AV.d := by
 have hc := c.toNat_lt
 apply List.ext_getElem
 ·simp [tabS]; omega
 ·intro i h1 h2
  simp only [tabS, List.length_map, List.length_range] at h2
  rcases Nat.lt_trichotomy i c.toNat with h | h | h
  ·rw [List.getElem_append_left (by simp [tabS]; omega), List.getElem_append_left (by simp [tabS]; omega)]
   simp [tabS, show ¬ c.toNat = i by omega]
  ·subst h
   rw [List.getElem_append_left (by simp [tabS]; omega), List.getElem_append_right (by simp [tabS]; omega)]
   simp [tabS]
  ·rw [List.getElem_append_right (by simp [tabS]; omega)]
   simp [tabS, show ¬ c.toNat = i by omega, show c.toNat + 1 + (i - (min c.toNat 256 + 1)) = i by omega]
theorem makeSet_ok : FnC Tryz.prog 104 [.d (.st signs)] (.tup [.dg 256 (tabS signs), .d (.bl true)]) := by
 refine FnC.intro ti_ok Tryz.func104 rfl Tryz.ntmps104 Tryz.call104 rfl (Nat.le_of_ble_eq_true rfl) rfl ?_
 (repeat' ((conv=>whnf);first|with_reducible refine gA ?_|(with_reducible first|refine gB ?_|refine gZ (fun x hx hu=>?_)|refine gY (fun x hx=>?_)|refine gE ?_|refine Both.mk ?_ ?_|refine gS (fun h=>?_) (fun h=>?_)|refine Spl.nt ?_|refine Spl.mk (fun h=>?_) (fun h=>?_))))
 refine loop_rule ti_ok (fun k : Nat => k ≤ signs.length) (fun k => ⟨[(0, .d (.st signs)), (2, .ptr 0 0), (4, .d (.it .i64 k))], [(0, .cells 256 ((tabS (signs.take k)).map .d))], 1⟩) (fun k => signs.length - k) 0 (Nat.zero_le _) ⟨⟨rfl, rfl, rfl, trivial⟩, ⟨?_, trivial⟩, ?_⟩ ?_
 ·refine cells_eq rfl (by kernel_rfl)
 ·simp only [S.ok, List.all_cons, List.all_nil, Ob.lt, all_d]; rfl
 have hlow : ∀ c ∈ signs, c.toNat < 128 := by decide
 have hl38 : signs.length = 38 := rfl
 intro k hk
 (repeat' ((conv=>whnf);first|with_reducible refine gA ?_|(with_reducible first|refine gB ?_|refine gZ (fun x hx hu=>?_)|refine gY (fun x hx=>?_)|refine gE ?_|refine Both.mk ?_ ?_|refine gS (fun h=>?_) (fun h=>?_)|refine Spl.nt ?_|refine Spl.mk (fun h=>?_) (fun h=>?_))))
 ·have := hlow x (List.mem_of_getElem? hx); omega
 ·refine again (k + 1) (by omega) (by dsimp only; omega) (And.intro rfl (And.intro rfl (And.intro rfl trivial))) (And.intro (cells_eq rfl ?_) trivial) ?_
  ·rw [take_snoc hx, ← tabS_upd]
   simp only [Nat.zero_add, Int.toNat_natCast, Nat.mul_one]; rfl
  ·simp only [S.ok, List.all_cons, List.all_nil, Ob.lt, all_d]; rfl
 ·obtain rfl : k = signs.length := by omega
  (repeat' ((conv=>whnf);first|with_reducible refine gA ?_|with_reducible refine AtA.mk' ?_|(with_reducible first|refine gB ?_|refine gZ (fun x hx hu=>?_)|refine gY (fun x hx=>?_)|refine gE ?_|refine Both.mk ?_ ?_|refine gS (fun h=>?_) (fun h=>?_)|refine Spl.nt ?_|refine Spl.mk (fun h=>?_) (fun h=>?_))))
  rfl
end Go.Proofs.YtmfokpfddponjaaGreatDoor
namespace Go.Proofs.YtmfokpfddponjaaGreatDoor
open Go.Sy
def trimR (s : List UInt8) : List UInt8 := (s.reverse.dropWhile signB).reverse
def trimS (s : List UInt8) : List UInt8 := (trimR s).dropWhile signB
theorem tab_get (c : UInt8) : ((tabS signs).map AV.d).getD c.toNat .junk = .d (.bl (signB c)) := by
 have : ∀ n, n < 256 → (signs.any fun c => c.toNat == n) = decide (97 ≤ n ∧ n ≤ 122 ∨ 48 ≤ n ∧ n ≤ 57 ∨ n = 46 ∨ n = 95) := by decide +kernel
 have hc := c.toNat_lt
 rw [List.getD, List.getElem?_eq_getElem (by simp [tabS]; omega)]
 simp only [tabS, List.getElem_map, List.getElem_range, Option.getD_some, signB]
 rw [this _ (by omega)]
theorem tab_ld {tab : List D} (ht : tab = tabS signs) (off : Nat) (c : UInt8) (h : off = c.toNat) : ldA ⟨.bool, 1, 1, [.bl false], some [.bl false], []⟩ off (List.map AV.d tab) = .d (.bl (signB c)) := by
 subst h ht
 have := tab_get c
 simpa [ldA, Kd.agg] using this
theorem trimR_0 {s t : List UInt8} (h : s = [] ++ t) (ht : t.all signB = true) : trimR s = [] := by
 subst h
 have key : ∀ l : List UInt8, l.all signB = true → l.dropWhile signB = [] := by
  intro l
  induction l with
  | nil => intro _; rfl
  | cons a l ih =>
   intro h
   rw [List.all_cons, Bool.and_eq_true] at h
   rw [List.dropWhile_cons_of_pos h.1, ih h.2]
 rw [trimR, List.reverse_eq_nil_iff]
 exact key _ (by rw [List.all_reverse]; simpa using ht)
theorem trimR_1 {s r t : List UInt8} {c : UInt8} (h : s = (r ++ [c]) ++ t) (ht : t.all signB = true) (hc : signB c = false) : trimR s = r ++ [c] := by
 subst h
 have e : ((r ++ [c]) ++ t).reverse = t.reverse ++ c :: r.reverse := by simp
 rw [trimR, e, List.dropWhile_append_of_pos (fun x hx => List.all_eq_true.1 ht x (List.mem_reverse.1 hx)), List.dropWhile_cons_of_neg (by simp [hc])]
 simp
theorem last_split {r : List UInt8} {x : UInt8} (h : r[r.length - 1]? = some x) : r = r.take (r.length - 1) ++ [x] := by
 have hl : r.length - 1 < r.length := by
  obtain ⟨hk, _⟩ := List.getElem?_eq_some_iff.1 h
  exact hk
 rw [← take_snoc h, show r.length - 1 + 1 = r.length by omega, List.take_length]
theorem cons_drop {u : List UInt8} {x : UInt8} (h : u[(0 : Int).toNat]? = some x) : u = [x] ++ u.drop 1 := by
 cases u with
 | nil => cases h
 | cons a u => obtain rfl : a = x := Option.some.inj h; rfl
theorem dropW_1 {r t u : List UInt8} {x : UInt8} (h : r = t ++ u) (ht : t.all signB = true) (hx : u[(0 : Int).toNat]? = some x) (hc : signB x = false) : r.dropWhile signB = u := by
 rw [h, List.dropWhile_append_of_pos (fun x hx => List.all_eq_true.1 ht x hx), cons_drop hx]
 exact List.dropWhile_cons_of_neg (by simp [hc])
theorem dropW_0 {r t u : List UInt8} (h : r = t ++ u) (ht : t.all signB = true) (hu : u.length = 0) : r.dropWhile signB = u := by
 obtain rfl := List.length_eq_zero_iff.1 hu
 rw [h, List.dropWhile_append_of_pos (fun x hx => List.all_eq_true.1 ht x hx)]; rfl
theorem trim_ok (s : List UInt8) (h0 : s ≠ []) (hs : s.length ≤ 1000000) : FnC Tryz.prog 78 [.d (.st s), .d (.st signs)] (.d (.st (trimS s))) := by
 refine FnC.intro ti_ok Tryz.func78 rfl Tryz.ntmps78 Tryz.call78 rfl (Nat.le_of_ble_eq_true rfl) rfl ?_
 obtain ⟨tab, ht⟩ : ∃ t, t = tabS signs := ⟨_, rfl⟩
 have hm := makeSet_ok
 rw [← ht] at hm
 (repeat' ((conv=>whnf);first|with_reducible refine gA ?_|with_reducible refine CallE.con ⟨_, hm, ?_⟩ | with_reducible refine CallI.inl ti_ok i106 rfl ?_|(with_reducible first|refine gB ?_|refine gZ (fun x hx hu=>?_)|refine gY (fun x hx=>?_)|refine gE ?_|refine Both.mk ?_ ?_|refine gS (fun h=>?_) (fun h=>?_)|refine Spl.nt ?_|refine Spl.mk (fun h=>?_) (fun h=>?_))))
 refine loop_mem ti_ok (fun r : List UInt8 => ∃ t, s = r ++ t ∧ t.all signB = true) (fun r => [(0, .d (.st r)), (1, .ptr 0 0)]) (fun _ => [(0, .cells 256 (tab.map .d))]) [0] (fun r => r.length) s ⟨[], by simp, rfl⟩ ⟨rfl, rfl, trivial⟩ ⟨cells_eq rfl (by rw [show List.drop (0 + 256) _ = [] from rfl, List.append_nil]; rfl), entL_nub _ _⟩ rfl (by simp only [List.all_cons, List.all_nil, Ob.lt, all_d]; rfl) ?_
 intro r ⟨t, hr, ha⟩
 have hrl : r.length + t.length = s.length := by rw [hr, List.length_append]
 (repeat' ((conv=>whnf);first|with_reducible refine gA ?_|with_reducible refine CallI.inl ti_ok i145 rfl ?_ | with_reducible refine AtA.eq (by with_unfolding_all exact tab_ld ht _ x (by first | omega | (dsimp only; omega) | simp)) ?_|(with_reducible first|refine gB ?_|refine gZ (fun x hx hu=>?_)|refine gY (fun x hx=>?_)|refine gE ?_|refine Both.mk ?_ ?_|refine gS (fun h=>?_) (fun h=>?_)|refine Spl.nt ?_|refine Spl.mk (fun h=>?_) (fun h=>?_))))
 ·rename_i hx0
  have hx' : r[r.length - 1]? = some x := by rw [show r.length - 1 = ((r.length : Int) - 1).toNat by omega]; exact hx
  have hsp := last_split hx'
  refine againM (r.take (r.length - 1)) ⟨[x] ++ t, by rw [← List.append_assoc, ← hsp]; exact hr, by rw [List.all_append, ha, Bool.and_true]; simpa using h⟩ (by dsimp only; rw [List.length_take]; omega) (And.intro (st_eq ?_) (And.intro rfl trivial)) (And.intro rfl ?_) rfl (by simp only [List.all_cons, List.all_nil, Ob.lt, all_d]; rfl)
  ·rw [show ((r.length : Int) - 1).toNat = r.length - 1 by omega]
  ·(repeat (first | exact trivial | refine And.intro rfl ?_))
 ·have hx' : r[r.length - 1]? = some x := by rw [show r.length - 1 = ((r.length : Int) - 1).toNat by omega]; exact hx
  have hsp := last_split hx'
  have h2 := hr
  rw [hsp] at h2
  have hw : trimS s = r.dropWhile signB := by rw [trimS, trimR_1 h2 ha (by simpa using h), ← hsp]
  (repeat' ((conv=>whnf);first|with_reducible refine gA ?_|with_reducible refine CallI.inl ti_ok i105 rfl ?_|(with_reducible first|refine gB ?_|refine gZ (fun x hx hu=>?_)|refine gY (fun x hx=>?_)|refine gE ?_|refine Both.mk ?_ ?_|refine gS (fun h=>?_) (fun h=>?_)|refine Spl.nt ?_|refine Spl.mk (fun h=>?_) (fun h=>?_))))
  refine loop_mem ti_ok (fun u : List UInt8 => ∃ t, r = t ++ u ∧ t.all signB = true) (fun u => [(0, .d (.st u)), (1, .ptr 0 0)]) (fun _ => [(0, .cells 256 (tab.map .d))]) [0] (fun u => u.length) r ⟨[], rfl, rfl⟩ ⟨rfl, rfl, trivial⟩ ⟨rfl, entL_nub _ _⟩ rfl (by simp only [List.all_cons, List.all_nil, Ob.lt, all_d]; rfl) ?_
  intro u ⟨t', hu', ha'⟩
  (repeat' ((conv=>whnf);first|with_reducible refine gA ?_|with_reducible refine CallI.inl ti_ok i145 rfl ?_ | with_reducible refine AtA.eq (by with_unfolding_all exact tab_ld ht _ x (by first | omega | (dsimp only; omega) | simp)) ?_|(with_reducible first|refine gB ?_|refine gZ (fun x hx hu=>?_)|refine gY (fun x hx=>?_)|refine gE ?_|refine Both.mk ?_ ?_|refine gS (fun h=>?_) (fun h=>?_)|refine Spl.nt ?_|refine Spl.mk (fun h=>?_) (fun h=>?_))))
  ·refine againM (u.drop 1) ⟨t' ++ [x], ?_, ?_⟩ (by dsimp only; rw [List.length_drop]; omega) (And.intro (st_eq ?_) (And.intro rfl trivial)) (And.intro rfl ?_) rfl (by simp only [List.all_cons, List.all_nil, Ob.lt, all_d]; rfl)
   ·rw [List.append_assoc, hu']; congr 1; exact cons_drop hx
   ·rw [List.all_append, ha', Bool.true_and]; simpa using h
   ·simp
   ·(repeat (first | exact trivial | refine And.intro rfl ?_))
  ·exact st_eq (hw.trans (dropW_1 hu' ha' hx (by simpa using h))).symm
  ·exact st_eq (hw.trans (dropW_0 hu' ha' (by omega))).symm
 ·have hw : trimS s = r.dropWhile signB := by
   have hr0 : r = [] := List.length_eq_zero_iff.1 (by omega)
   rw [hr0] at hr
   rw [trimS, trimR_0 hr ha, hr0]
  (repeat' ((conv=>whnf);first|with_reducible refine gA ?_|with_reducible refine CallI.inl ti_ok i105 rfl ?_|(with_reducible first|refine gB ?_|refine gZ (fun x hx hu=>?_)|refine gY (fun x hx=>?_)|refine gE ?_|refine Both.mk ?_ ?_|refine gS (fun h=>?_) (fun h=>?_)|refine Spl.nt ?_|refine Spl.mk (fun h=>?_) (fun h=>?_))))
  refine loop_mem ti_ok (fun u : List UInt8 => ∃ t, r = t ++ u ∧ t.all signB = true) (fun u => [(0, .d (.st u)), (1, .ptr 0 0)]) (fun _ => [(0, .cells 256 (tab.map .d))]) [0] (fun u => u.length) r ⟨[], rfl, rfl⟩ ⟨rfl, rfl, trivial⟩ ⟨rfl, entL_nub _ _⟩ rfl (by simp only [List.all_cons, List.all_nil, Ob.lt, all_d]; rfl) ?_
  intro u ⟨t', hu', ha'⟩
  (repeat' ((conv=>whnf);first|with_reducible refine gA ?_|with_reducible refine CallI.inl ti_ok i145 rfl ?_ | with_reducible refine AtA.eq (by with_unfolding_all exact tab_ld ht _ x (by first | omega | (dsimp only; omega) | simp)) ?_|(with_reducible first|refine gB ?_|refine gZ (fun x hx hu=>?_)|refine gY (fun x hx=>?_)|refine gE ?_|refine Both.mk ?_ ?_|refine gS (fun h=>?_) (fun h=>?_)|refine Spl.nt ?_|refine Spl.mk (fun h=>?_) (fun h=>?_))))
  ·refine againM (u.drop 1) ⟨t' ++ [x], ?_, ?_⟩ (by dsimp only; rw [List.length_drop]; omega) (And.intro (st_eq ?_) (And.intro rfl trivial)) (And.intro rfl ?_) rfl (by simp only [List.all_cons, List.all_nil, Ob.lt, all_d]; rfl)
   ·rw [List.append_assoc, hu']; congr 1; exact cons_drop hx
   ·rw [List.all_append, ha', Bool.true_and]; simpa using h
   ·simp
   ·(repeat (first | exact trivial | refine And.intro rfl ?_))
  ·exact st_eq (hw.trans (dropW_1 hu' ha' hx (by simpa using h))).symm
  ·exact st_eq (hw.trans (dropW_0 hu' ha' (by omega))).symm
end Go.Proofs.YtmfokpfddponjaaGreatDoor
namespace Go.Proofs
open Go.Shelf
def Tryz.lays156_ren : Go.Shelf.Ren := ⟨fun | 156 => 72 | 165 => 95 | 166 => 96 | 169 => 74 | 240 => 97 | 241 => 139 | 276 => 140 | 277 => 160 | n => n, fun | 31 => 81 | 9 => 9 | 3 => 3 | 4 => 4 | 0 => 0 | 20 => 20 | 72 => 157 | 76 => 133 | 70 => 155 | 37 => 48 | 75 => 132 | 127 => 184 | 164 => 215 | 5 => 5 | 80 => 158 | n => n, fun | n => n⟩
theorem Tryz.lays156 : Go.Proofs.Lays.n156 Tryz.prog Tryz.lays156_ren := {
 mixed := by kernel_rfl
 f156 := Tryz.func72.trans (congrArg some (by kernel_rfl))
 f165 := Tryz.func95.trans (congrArg some (by kernel_rfl))
 f166 := Tryz.func96.trans (congrArg some (by kernel_rfl))
 f169 := Tryz.func74.trans (congrArg some (by kernel_rfl))
 f240 := Tryz.func97.trans (congrArg some (by kernel_rfl))
 f241 := Tryz.func139.trans (congrArg some (by kernel_rfl))
 f276 := Tryz.func140.trans (congrArg some (by kernel_rfl))
 f277 := Tryz.func160.trans (congrArg some (by kernel_rfl))
 t0 := Tryz.underlying0
 a0 := Tryz.isAgg0
 z0 := Tryz.sizeOf0
 v0 := Tryz.zeroValue0
 t3 := Tryz.underlying3
 a3 := Tryz.isAgg3
 z3 := Tryz.sizeOf3
 v3 := Tryz.zeroValue3
 t4 := Tryz.underlying4
 a4 := Tryz.isAgg4
 z4 := Tryz.sizeOf4
 v4 := Tryz.zeroValue4
 t9 := Tryz.underlying9
 a9 := Tryz.isAgg9
 z9 := Tryz.sizeOf9
 v9 := Tryz.zeroValue9
 t20 := Tryz.underlying20
 a20 := Tryz.isAgg20
 z20 := Tryz.sizeOf20
 v20 := Tryz.zeroValue20
 t31 := Tryz.underlying81
 a31 := Tryz.isAgg81
 z31 := Tryz.sizeOf81
 v31 := Tryz.zeroValue81
 t37 := Tryz.underlying48
 a37 := Tryz.isAgg48
 z37 := Tryz.sizeOf48
 v37 := Tryz.zeroValue48
 t70 := Tryz.underlying155
 a70 := Tryz.isAgg155
 z70 := Tryz.sizeOf155
 v70 := Tryz.zeroValue155
 t72 := Tryz.underlying157
 a72 := Tryz.isAgg157
 z72 := Tryz.sizeOf157
 v72 := Tryz.zeroValue157
 t75 := Tryz.underlying132
 a75 := Tryz.isAgg132
 z75 := Tryz.sizeOf132
 v75 := Tryz.zeroValue132
 t76 := Tryz.underlying133
 a76 := Tryz.isAgg133
 z76 := Tryz.sizeOf133
 v76 := Tryz.zeroValue133
 t127 := Tryz.underlying184
 a127 := Tryz.isAgg184
 z127 := Tryz.sizeOf184
 v127 := Tryz.zeroValue184
 t164 := Tryz.underlying215
 a164 := Tryz.isAgg215
 z164 := Tryz.sizeOf215
 v164 := Tryz.zeroValue215 }
theorem Tryz.Builder_Extra_156 : Builder.Extra Tryz.prog Tryz.lays156_ren := {
 sizeBuilder := by kernel_rfl
 liesBuilder := by kernel_rfl
 t5 := Tryz.underlying5
 a5 := Tryz.isAgg5
 z5 := Tryz.sizeOf5
 v5 := Tryz.zeroValue5
 infoByte := by kernel_rfl
 cellsByte := by kernel_rfl
 sizeByte := by kernel_rfl
 neB5 := by decide }
open Go.RowKit in
theorem Tryz.strings_Join_none (a : Option Addr) (c : Nat) (sep : ByteArray) (w : World) :
  Calls Tryz.prog 72 #[.slice a 0 c, .string sep] w fun e w' => e = .returned (.string ⟨#[]⟩) ∧ w' = w := Any.strings_Join_none Tryz.lays156 Tryz.Builder_Extra_156 a c sep w
open Go.RowKit in
theorem Tryz.strings_Join (bk o c : Nat) (xs : List ByteArray) (sep : ByteArray) (w : World) (hcells : ∀ (j : Nat) x, xs[j]? = some x → w.cell? ⟨bk, o + j, none⟩ = some (.string x)) (hbk : bk < w.heap.size) (hN : xs.length ≤ 140737488355328) (hcap : xs.length ≤ c) (hlen : (Lib.join (xs.map (·.data.toList)) sep.data.toList).length ≤ 140737488355328) :
  Calls Tryz.prog 72 #[.slice (some ⟨bk, o, none⟩) xs.length c, .string sep] w fun e w' => e = .returned (.string ⟨(Lib.join (xs.map (·.data.toList)) sep.data.toList).toArray⟩) ∧ Below w.heap.size w w' := Any.strings_Join Tryz.lays156 Tryz.Builder_Extra_156 bk o c xs sep w hcells hbk hN hcap hlen
def Tryz.laysM183_ren : Go.Shelf.Ren := ⟨fun | 183 => 60 | n => n, fun | 130 => 163 | 37 => 48 | 0 => 0 | 93 => 130 | 3 => 3 | 5 => 5 | 91 => 128 | n => n, fun | n => n⟩
theorem Tryz.laysM183 : Go.Proofs.LaysM.n183 Tryz.prog Tryz.laysM183_ren := {
 mixed := by kernel_rfl
 f183 := Tryz.func60.trans (congrArg some (by kernel_rfl))
 t0 := Tryz.underlying0
 a0 := Tryz.isAgg0
 z0 := Tryz.sizeOf0
 v0 := Tryz.zeroValue0
 t3 := Tryz.underlying3
 a3 := Tryz.isAgg3
 z3 := Tryz.sizeOf3
 v3 := Tryz.zeroValue3
 t37 := Tryz.underlying48
 a37 := Tryz.isAgg48
 z37 := Tryz.sizeOf48
 v37 := Tryz.zeroValue48
 t93 := Tryz.underlying130
 a93 := Tryz.isAgg130
 z93 := Tryz.sizeOf130
 v93 := Tryz.zeroValue130
 t130 := Tryz.underlying163
 a130 := Tryz.isAgg163
 z130 := Tryz.sizeOf163
 v130 := Tryz.zeroValue163
 t5 := Tryz.underlying5
 a5 := Tryz.isAgg5
 z5 := Tryz.sizeOf5
 v5 := Tryz.zeroValue5
 t91 := Tryz.underlying128
 a91 := Tryz.isAgg128
 z91 := Tryz.sizeOf128
 v91 := Tryz.zeroValue128
 i0 := by kernel_rfl
 i3 := by kernel_rfl
 i5 := by kernel_rfl
 i37 := by kernel_rfl
 i91 := by kernel_rfl
 i93 := by kernel_rfl
 i130 := by kernel_rfl }
open Go.RowKit in
theorem Tryz.Buffer_Bytes (B b : Nat) (bs : List Value) (w : World) (h : Lib.IsBuffer 130 5 B b bs w) :
  Calls Tryz.prog 60 #[.pointer (some ⟨b, 0, none⟩)] w fun e w' => ∃ v, e = .returned v ∧ w'.ownsRow B 5 1 v bs.length bs ∧ ∃ n, w' = w.drewN n := Any.Buffer_Bytes Tryz.laysM183 B b bs w h
def Tryz.lays143_ren : Go.Shelf.Ren := ⟨fun | 143 => 101 | 219 => 144 | 217 => 162 | 225 => 163 | 224 => 164 | 267 => 165 | 266 => 179 | 314 => 180 | n => n, fun | 9 => 9 | 3 => 3 | 4 => 4 | 5 => 5 | 46 => 178 | 146 => 248 | 51 => 212 | n => n, fun | 1 => 1 | n => n⟩
theorem Tryz.lays143 : Go.Proofs.Lays.n143 Tryz.prog Tryz.lays143_ren := {
 mixed := by kernel_rfl
 f143 := Tryz.func101.trans (congrArg some (by kernel_rfl))
 f217 := Tryz.func162.trans (congrArg some (by kernel_rfl))
 f219 := Tryz.func144.trans (congrArg some (by kernel_rfl))
 f224 := Tryz.func164.trans (congrArg some (by kernel_rfl))
 f225 := Tryz.func163.trans (congrArg some (by kernel_rfl))
 f266 := Tryz.func179.trans (congrArg some (by kernel_rfl))
 f267 := Tryz.func165.trans (congrArg some (by kernel_rfl))
 f314 := Tryz.func180.trans (congrArg some (by kernel_rfl))
 t3 := Tryz.underlying3
 a3 := Tryz.isAgg3
 z3 := Tryz.sizeOf3
 v3 := Tryz.zeroValue3
 t4 := Tryz.underlying4
 a4 := Tryz.isAgg4
 z4 := Tryz.sizeOf4
 v4 := Tryz.zeroValue4
 t5 := Tryz.underlying5
 a5 := Tryz.isAgg5
 z5 := Tryz.sizeOf5
 v5 := Tryz.zeroValue5
 t9 := Tryz.underlying9
 a9 := Tryz.isAgg9
 z9 := Tryz.sizeOf9
 v9 := Tryz.zeroValue9
 t46 := Tryz.underlying178
 a46 := Tryz.isAgg178
 z46 := Tryz.sizeOf178
 v46 := Tryz.zeroValue178
 t51 := Tryz.underlying212
 a51 := Tryz.isAgg212
 z51 := Tryz.sizeOf212
 v51 := Tryz.zeroValue212
 t146 := Tryz.underlying248
 a146 := Tryz.isAgg248
 z146 := Tryz.sizeOf248
 v146 := Tryz.zeroValue248
 g1 := by kernel_rfl }
open Go.RowKit Go.Lib in
theorem Tryz.strings_Index_one (s : ByteArray) (c : UInt8) (w : World) :
  Calls Tryz.prog 101 #[.string s, .string ⟨#[c]⟩] w fun e w' => e = .returned (.int .i64 (Lib.indexByte s.data.toList c)) ∧ w' = w := Any.strings_Index_one Tryz.lays143 s c w
def Tryz.lays138_ren : Go.Shelf.Ren := ⟨fun | 138 => 100 | 195 => 141 | 218 => 143 | 143 => 101 | 219 => 144 | 217 => 162 | 225 => 163 | 224 => 164 | 267 => 165 | 266 => 179 | 314 => 180 | n => n, fun | 9 => 9 | 3 => 3 | 4 => 4 | 5 => 5 | 0 => 0 | 46 => 178 | 146 => 248 | 51 => 212 | n => n, fun | 1 => 1 | n => n⟩
theorem Tryz.lays138 : Go.Proofs.Lays.n138 Tryz.prog Tryz.lays138_ren := {
 mixed := by kernel_rfl
 f138 := Tryz.func100.trans (congrArg some (by kernel_rfl))
 f143 := Tryz.func101.trans (congrArg some (by kernel_rfl))
 f195 := Tryz.func141.trans (congrArg some (by kernel_rfl))
 f217 := Tryz.func162.trans (congrArg some (by kernel_rfl))
 f218 := Tryz.func143.trans (congrArg some (by kernel_rfl))
 f219 := Tryz.func144.trans (congrArg some (by kernel_rfl))
 f224 := Tryz.func164.trans (congrArg some (by kernel_rfl))
 f225 := Tryz.func163.trans (congrArg some (by kernel_rfl))
 f266 := Tryz.func179.trans (congrArg some (by kernel_rfl))
 f267 := Tryz.func165.trans (congrArg some (by kernel_rfl))
 f314 := Tryz.func180.trans (congrArg some (by kernel_rfl))
 t0 := Tryz.underlying0
 a0 := Tryz.isAgg0
 z0 := Tryz.sizeOf0
 v0 := Tryz.zeroValue0
 t3 := Tryz.underlying3
 a3 := Tryz.isAgg3
 z3 := Tryz.sizeOf3
 v3 := Tryz.zeroValue3
 t4 := Tryz.underlying4
 a4 := Tryz.isAgg4
 z4 := Tryz.sizeOf4
 v4 := Tryz.zeroValue4
 t5 := Tryz.underlying5
 a5 := Tryz.isAgg5
 z5 := Tryz.sizeOf5
 v5 := Tryz.zeroValue5
 t9 := Tryz.underlying9
 a9 := Tryz.isAgg9
 z9 := Tryz.sizeOf9
 v9 := Tryz.zeroValue9
 t46 := Tryz.underlying178
 a46 := Tryz.isAgg178
 z46 := Tryz.sizeOf178
 v46 := Tryz.zeroValue178
 t51 := Tryz.underlying212
 a51 := Tryz.isAgg212
 z51 := Tryz.sizeOf212
 v51 := Tryz.zeroValue212
 t146 := Tryz.underlying248
 a146 := Tryz.isAgg248
 z146 := Tryz.sizeOf248
 v146 := Tryz.zeroValue248
 g1 := by kernel_rfl }
open Go.RowKit Go.Lib in
theorem Tryz.strings_Count_one (s : ByteArray) (c : UInt8) (w : World) :
  Calls Tryz.prog 100 #[.string s, .string ⟨#[c]⟩] w fun e w' => e = .returned (.int .i64 (Lib.countByte s.data.toList c)) ∧ w' = w := Any.strings_Count_one Tryz.lays138 s c w
def Tryz.lays189_ren : Go.Shelf.Ren := ⟨fun | 189 => 114 | 125 => 91 | 257 => 149 | 128 => 136 | 129 => 137 | 294 => 168 | 295 => 169 | 296 => 170 | 297 => 171 | 298 => 172 | 299 => 173 | 216 => 174 | 300 => 175 | 301 => 176 | 328 => 183 | 329 => 154 | 330 => 155 | 331 => 184 | 332 => 185 | 215 => 186 | 343 => 187 | n => n, fun | 28 => 90 | 3 => 3 | 46 => 178 | 0 => 0 | 51 => 212 | 53 => 214 | 4 => 4 | 183 => 206 | 182 => 205 | 131 => 113 | 5 => 5 | 9 => 9 | 218 => 227 | 222 => 231 | 228 => 241 | 229 => 242 | n => n, fun | n => n⟩
theorem Tryz.lays189 : Go.Proofs.Lays.n189 Tryz.prog Tryz.lays189_ren := {
 mixed := by kernel_rfl
 f125 := Tryz.func91.trans (congrArg some (by kernel_rfl))
 f128 := Tryz.func136.trans (congrArg some (by kernel_rfl))
 f129 := Tryz.func137.trans (congrArg some (by kernel_rfl))
 f189 := Tryz.func114.trans (congrArg some (by kernel_rfl))
 f215 := Tryz.func186.trans (congrArg some (by kernel_rfl))
 f216 := Tryz.func174.trans (congrArg some (by kernel_rfl))
 f257 := Tryz.func149.trans (congrArg some (by kernel_rfl))
 f294 := Tryz.func168.trans (congrArg some (by kernel_rfl))
 f295 := Tryz.func169.trans (congrArg some (by kernel_rfl))
 f296 := Tryz.func170.trans (congrArg some (by kernel_rfl))
 f297 := Tryz.func171.trans (congrArg some (by kernel_rfl))
 f298 := Tryz.func172.trans (congrArg some (by kernel_rfl))
 f299 := Tryz.func173.trans (congrArg some (by kernel_rfl))
 f300 := Tryz.func175.trans (congrArg some (by kernel_rfl))
 f301 := Tryz.func176.trans (congrArg some (by kernel_rfl))
 f328 := Tryz.func183.trans (congrArg some (by kernel_rfl))
 f329 := Tryz.func154.trans (congrArg some (by kernel_rfl))
 f330 := Tryz.func155.trans (congrArg some (by kernel_rfl))
 f331 := Tryz.func184.trans (congrArg some (by kernel_rfl))
 f332 := Tryz.func185.trans (congrArg some (by kernel_rfl))
 f343 := Tryz.func187.trans (congrArg some (by kernel_rfl))
 t0 := Tryz.underlying0
 a0 := Tryz.isAgg0
 z0 := Tryz.sizeOf0
 v0 := Tryz.zeroValue0
 t3 := Tryz.underlying3
 a3 := Tryz.isAgg3
 z3 := Tryz.sizeOf3
 v3 := Tryz.zeroValue3
 t4 := Tryz.underlying4
 a4 := Tryz.isAgg4
 z4 := Tryz.sizeOf4
 v4 := Tryz.zeroValue4
 t5 := Tryz.underlying5
 a5 := Tryz.isAgg5
 z5 := Tryz.sizeOf5
 v5 := Tryz.zeroValue5
 t9 := Tryz.underlying9
 a9 := Tryz.isAgg9
 z9 := Tryz.sizeOf9
 v9 := Tryz.zeroValue9
 t28 := Tryz.underlying90
 a28 := Tryz.isAgg90
 z28 := Tryz.sizeOf90
 v28 := Tryz.zeroValue90
 t46 := Tryz.underlying178
 a46 := Tryz.isAgg178
 z46 := Tryz.sizeOf178
 v46 := Tryz.zeroValue178
 t51 := Tryz.underlying212
 a51 := Tryz.isAgg212
 z51 := Tryz.sizeOf212
 v51 := Tryz.zeroValue212
 t53 := Tryz.underlying214
 a53 := Tryz.isAgg214
 z53 := Tryz.sizeOf214
 v53 := Tryz.zeroValue214
 t131 := Tryz.underlying113
 a131 := Tryz.isAgg113
 z131 := Tryz.sizeOf113
 v131 := Tryz.zeroValue113
 t182 := Tryz.underlying205
 a182 := Tryz.isAgg205
 z182 := Tryz.sizeOf205
 v182 := Tryz.zeroValue205
 t183 := Tryz.underlying206
 a183 := Tryz.isAgg206
 z183 := Tryz.sizeOf206
 v183 := Tryz.zeroValue206
 t218 := Tryz.underlying227
 a218 := Tryz.isAgg227
 z218 := Tryz.sizeOf227
 v218 := Tryz.zeroValue227
 t222 := Tryz.underlying231
 a222 := Tryz.isAgg231
 z222 := Tryz.sizeOf231
 v222 := Tryz.zeroValue231
 t228 := Tryz.underlying241
 a228 := Tryz.isAgg241
 z228 := Tryz.sizeOf241
 v228 := Tryz.zeroValue241
 t229 := Tryz.underlying242
 a229 := Tryz.isAgg242
 z229 := Tryz.sizeOf242
 v229 := Tryz.zeroValue242 }
open Go.Sort Go.RowKit in
theorem Tryz.slices_Sort_int (blk off cap : Nat) (zs : List Int) (w : World) (hH : Holds (Value.int .i64) w blk off zs.toArray) (hblk : blk < w.heap.size) (hsz : zs.length < 4611686018427387904) :
  Calls Tryz.prog 114 #[.slice (some ⟨blk, off, none⟩) zs.length cap] w fun e w' =>
   e = .returned (.tuple #[]) ∧ ∃ n os, w' = grow (putRow (Value.int .i64) (Sort.ahead w n) blk off (zs.mergeSort fun x y => decide (x ≤ y)).toArray) os := Any.slices_Sort_int Tryz.lays189 blk off cap zs w hH hblk hsz
def Tryz.lays190_ren : Go.Shelf.Ren := ⟨fun | 190 => 69 | 125 => 91 | 258 => 90 | 128 => 136 | 129 => 137 | 302 => 127 | 303 => 128 | 304 => 129 | 305 => 130 | 306 => 131 | 307 => 132 | 308 => 133 | 309 => 134 | 310 => 135 | 333 => 153 | 329 => 154 | 330 => 155 | 334 => 156 | 335 => 157 | 336 => 158 | 344 => 178 | n => n, fun | 31 => 81 | 9 => 9 | 3 => 3 | 46 => 178 | 0 => 0 | 51 => 212 | 53 => 214 | 4 => 4 | 183 => 206 | 182 => 205 | 131 => 113 | 5 => 5 | 218 => 227 | 222 => 231 | 228 => 241 | 229 => 242 | n => n, fun | n => n⟩
theorem Tryz.lays190 : Go.Proofs.Lays.n190 Tryz.prog Tryz.lays190_ren := {
 mixed := by kernel_rfl
 f125 := Tryz.func91.trans (congrArg some (by kernel_rfl))
 f128 := Tryz.func136.trans (congrArg some (by kernel_rfl))
 f129 := Tryz.func137.trans (congrArg some (by kernel_rfl))
 f190 := Tryz.func69.trans (congrArg some (by kernel_rfl))
 f258 := Tryz.func90.trans (congrArg some (by kernel_rfl))
 f302 := Tryz.func127.trans (congrArg some (by kernel_rfl))
 f303 := Tryz.func128.trans (congrArg some (by kernel_rfl))
 f304 := Tryz.func129.trans (congrArg some (by kernel_rfl))
 f305 := Tryz.func130.trans (congrArg some (by kernel_rfl))
 f306 := Tryz.func131.trans (congrArg some (by kernel_rfl))
 f307 := Tryz.func132.trans (congrArg some (by kernel_rfl))
 f308 := Tryz.func133.trans (congrArg some (by kernel_rfl))
 f309 := Tryz.func134.trans (congrArg some (by kernel_rfl))
 f310 := Tryz.func135.trans (congrArg some (by kernel_rfl))
 f329 := Tryz.func154.trans (congrArg some (by kernel_rfl))
 f330 := Tryz.func155.trans (congrArg some (by kernel_rfl))
 f333 := Tryz.func153.trans (congrArg some (by kernel_rfl))
 f334 := Tryz.func156.trans (congrArg some (by kernel_rfl))
 f335 := Tryz.func157.trans (congrArg some (by kernel_rfl))
 f336 := Tryz.func158.trans (congrArg some (by kernel_rfl))
 f344 := Tryz.func178.trans (congrArg some (by kernel_rfl))
 t0 := Tryz.underlying0
 a0 := Tryz.isAgg0
 z0 := Tryz.sizeOf0
 v0 := Tryz.zeroValue0
 t3 := Tryz.underlying3
 a3 := Tryz.isAgg3
 z3 := Tryz.sizeOf3
 v3 := Tryz.zeroValue3
 t4 := Tryz.underlying4
 a4 := Tryz.isAgg4
 z4 := Tryz.sizeOf4
 v4 := Tryz.zeroValue4
 t5 := Tryz.underlying5
 a5 := Tryz.isAgg5
 z5 := Tryz.sizeOf5
 v5 := Tryz.zeroValue5
 t9 := Tryz.underlying9
 a9 := Tryz.isAgg9
 z9 := Tryz.sizeOf9
 v9 := Tryz.zeroValue9
 t31 := Tryz.underlying81
 a31 := Tryz.isAgg81
 z31 := Tryz.sizeOf81
 v31 := Tryz.zeroValue81
 t46 := Tryz.underlying178
 a46 := Tryz.isAgg178
 z46 := Tryz.sizeOf178
 v46 := Tryz.zeroValue178
 t51 := Tryz.underlying212
 a51 := Tryz.isAgg212
 z51 := Tryz.sizeOf212
 v51 := Tryz.zeroValue212
 t53 := Tryz.underlying214
 a53 := Tryz.isAgg214
 z53 := Tryz.sizeOf214
 v53 := Tryz.zeroValue214
 t131 := Tryz.underlying113
 a131 := Tryz.isAgg113
 z131 := Tryz.sizeOf113
 v131 := Tryz.zeroValue113
 t182 := Tryz.underlying205
 a182 := Tryz.isAgg205
 z182 := Tryz.sizeOf205
 v182 := Tryz.zeroValue205
 t183 := Tryz.underlying206
 a183 := Tryz.isAgg206
 z183 := Tryz.sizeOf206
 v183 := Tryz.zeroValue206
 t218 := Tryz.underlying227
 a218 := Tryz.isAgg227
 z218 := Tryz.sizeOf227
 v218 := Tryz.zeroValue227
 t222 := Tryz.underlying231
 a222 := Tryz.isAgg231
 z222 := Tryz.sizeOf231
 v222 := Tryz.zeroValue231
 t228 := Tryz.underlying241
 a228 := Tryz.isAgg241
 z228 := Tryz.sizeOf241
 v228 := Tryz.zeroValue241
 t229 := Tryz.underlying242
 a229 := Tryz.isAgg242
 z229 := Tryz.sizeOf242
 v229 := Tryz.zeroValue242 }
open Go.Sort Go.RowKit in
theorem Tryz.slices_Sort_string (blk off cap : Nat) (ss : List (List UInt8)) (w : World) (hH : Holds encStr w blk off ss.toArray) (hblk : blk < w.heap.size) (hsz : ss.length < 4611686018427387904) :
  Calls Tryz.prog 69 #[.slice (some ⟨blk, off, none⟩) ss.length cap] w fun e w' =>
   e = .returned (.tuple #[]) ∧ ∃ n os, w' = grow (putRow encStr (Sort.ahead w n) blk off (ss.mergeSort fun x y => decide (x ≤ y)).toArray) os := Any.slices_Sort_string Tryz.lays190 blk off cap ss w hH hblk hsz
def Tryz.laysM180_ren : Go.Shelf.Ren := ⟨fun | 180 => 59 | 251 => 80 | 252 => 81 | 181 => 116 | 184 => 117 | 290 => 118 | 324 => 150 | n => n, fun | 130 => 163 | 37 => 48 | 3 => 3 | 75 => 132 | 0 => 0 | 93 => 130 | 91 => 128 | 131 => 113 | 4 => 4 | 20 => 20 | 5 => 5 | 80 => 158 | 9 => 9 | n => n, fun | 14 => 0 | n => n⟩
theorem Tryz.laysM180 : Go.Proofs.LaysM.n180 Tryz.prog Tryz.laysM180_ren := {
 mixed := by kernel_rfl
 f180 := Tryz.func59.trans (congrArg some (by kernel_rfl))
 f181 := Tryz.func116.trans (congrArg some (by kernel_rfl))
 f184 := Tryz.func117.trans (congrArg some (by kernel_rfl))
 f251 := Tryz.func80.trans (congrArg some (by kernel_rfl))
 f252 := Tryz.func81.trans (congrArg some (by kernel_rfl))
 f290 := Tryz.func118.trans (congrArg some (by kernel_rfl))
 f324 := Tryz.func150.trans (congrArg some (by kernel_rfl))
 t0 := Tryz.underlying0
 a0 := Tryz.isAgg0
 z0 := Tryz.sizeOf0
 v0 := Tryz.zeroValue0
 t3 := Tryz.underlying3
 a3 := Tryz.isAgg3
 z3 := Tryz.sizeOf3
 v3 := Tryz.zeroValue3
 t4 := Tryz.underlying4
 a4 := Tryz.isAgg4
 z4 := Tryz.sizeOf4
 v4 := Tryz.zeroValue4
 t20 := Tryz.underlying20
 a20 := Tryz.isAgg20
 z20 := Tryz.sizeOf20
 v20 := Tryz.zeroValue20
 t37 := Tryz.underlying48
 a37 := Tryz.isAgg48
 z37 := Tryz.sizeOf48
 v37 := Tryz.zeroValue48
 t75 := Tryz.underlying132
 a75 := Tryz.isAgg132
 z75 := Tryz.sizeOf132
 v75 := Tryz.zeroValue132
 t91 := Tryz.underlying128
 a91 := Tryz.isAgg128
 z91 := Tryz.sizeOf128
 v91 := Tryz.zeroValue128
 t93 := Tryz.underlying130
 a93 := Tryz.isAgg130
 z93 := Tryz.sizeOf130
 v93 := Tryz.zeroValue130
 t130 := Tryz.underlying163
 a130 := Tryz.isAgg163
 z130 := Tryz.sizeOf163
 v130 := Tryz.zeroValue163
 t131 := Tryz.underlying113
 a131 := Tryz.isAgg113
 z131 := Tryz.sizeOf113
 v131 := Tryz.zeroValue113
 g14 := by kernel_rfl
 t5 := Tryz.underlying5
 a5 := Tryz.isAgg5
 z5 := Tryz.sizeOf5
 v5 := Tryz.zeroValue5
 t9 := Tryz.underlying9
 a9 := Tryz.isAgg9
 z9 := Tryz.sizeOf9
 v9 := Tryz.zeroValue9
 t80 := Tryz.underlying158
 a80 := Tryz.isAgg158
 z80 := Tryz.sizeOf158
 v80 := Tryz.zeroValue158
 i0 := by kernel_rfl
 i3 := by kernel_rfl
 i4 := by kernel_rfl
 i5 := by kernel_rfl
 i9 := by kernel_rfl
 i20 := by kernel_rfl
 i37 := by kernel_rfl
 i75 := by kernel_rfl
 i80 := by kernel_rfl
 i91 := by kernel_rfl
 i93 := by kernel_rfl
 i130 := by kernel_rfl
 i131 := by kernel_rfl
 m14 := by kernel_rfl }
open Go.RowKit in
theorem Tryz.Buffer_Write_k (B b : Nat) (bs cs : List Value) (a : Addr) (n c : Nat) (w : World) (h : Lib.IsBuffer 130 5 B b bs w) (hBw : B ≤ w.heap.size) (h1 : ∀ v ∈ bs, v.oneCell' = true) (hn : cs.length = n) (haB : a.block < B) (hsrc : ∀ j v, cs[j]? = some v → w.cell? (a.add j) = some v) (h1c : ∀ v ∈ cs, v.oneCell' = true) (hlim : bs.length + n ≤ 140737488355328) :
  Calls Tryz.prog 59 #[.pointer (some ⟨b, 0, none⟩), .slice (some a) n c] w fun e w' => e = .returned (.tuple #[.int .i64 n, .nilIface]) ∧ Lib.IsBuffer 130 5 B b (bs ++ cs) w' ∧ Below B w w' ∧ Lib.OthersKept 5 (some b) w w' := Any.Buffer_Write_k Tryz.laysM180 B b bs cs a n c w h hBw h1 hn haB hsrc h1c hlim
def Tryz.laysNm220_ren : Go.Shelf.Ren := ⟨fun | 20 => 115 | n => n, fun | 22 => 90 | 3 => 3 | 4 => 4 | 0 => 0 | n => n, fun | n => n⟩
theorem Tryz.laysNm220 : Go.Proofs.Lays2.n20 Tryz.prog Tryz.laysNm220_ren := {
 mixed := by kernel_rfl
 f20 := Tryz.func115.trans (congrArg some (by kernel_rfl))
 t0 := Tryz.underlying0
 a0 := Tryz.isAgg0
 z0 := Tryz.sizeOf0
 v0 := Tryz.zeroValue0
 t3 := Tryz.underlying3
 a3 := Tryz.isAgg3
 z3 := Tryz.sizeOf3
 v3 := Tryz.zeroValue3
 t4 := Tryz.underlying4
 a4 := Tryz.isAgg4
 z4 := Tryz.sizeOf4
 v4 := Tryz.zeroValue4
 t22 := Tryz.underlying90
 a22 := Tryz.isAgg90
 z22 := Tryz.sizeOf90
 v22 := Tryz.zeroValue90
 i3 := by kernel_rfl }
open Go.RowKit Go.Lib Go.Sort in
theorem Tryz.slices_Compact_int (blk off cap : Nat) (zs : List Int) (w : World) (hH : Holds (Value.int .i64) w blk off zs.toArray) (hsz : zs.length ≤ 9223372036854775807) (hcap : zs.length ≤ cap) :
  Calls Tryz.prog 115 #[.slice (some ⟨blk, off, none⟩) zs.length cap] w fun e w' => e = .returned (.slice (some ⟨blk, off, none⟩) (Lib.compact zs).length cap) ∧ ∃ q, w' = putRow (Value.int .i64) (Sort.ahead w q) blk off (Lib.compact zs ++ List.replicate (zs.length - (Lib.compact zs).length) 0).toArray := Any.slices_Compact_int Tryz.laysNm220 blk off cap zs w hH hsz hcap
def Tryz.lays194_ren : Go.Shelf.Ren := ⟨fun | 194 => 70 | n => n, fun | 31 => 81 | 9 => 9 | 3 => 3 | 4 => 4 | 0 => 0 | n => n, fun | n => n⟩
theorem Tryz.lays194 : Go.Proofs.Lays.n194 Tryz.prog Tryz.lays194_ren := {
 mixed := by kernel_rfl
 f194 := Tryz.func70.trans (congrArg some (by kernel_rfl))
 t0 := Tryz.underlying0
 a0 := Tryz.isAgg0
 z0 := Tryz.sizeOf0
 v0 := Tryz.zeroValue0
 t3 := Tryz.underlying3
 a3 := Tryz.isAgg3
 z3 := Tryz.sizeOf3
 v3 := Tryz.zeroValue3
 t4 := Tryz.underlying4
 a4 := Tryz.isAgg4
 z4 := Tryz.sizeOf4
 v4 := Tryz.zeroValue4
 t9 := Tryz.underlying9
 a9 := Tryz.isAgg9
 z9 := Tryz.sizeOf9
 v9 := Tryz.zeroValue9
 t31 := Tryz.underlying81
 a31 := Tryz.isAgg81
 z31 := Tryz.sizeOf81
 v31 := Tryz.zeroValue81 }
open Go.RowKit Go.Lib Go.Sort in
theorem Tryz.slices_Compact_string (blk off cap : Nat) (zs : List (List UInt8)) (w : World) (hH : Holds encStr w blk off zs.toArray) (hsz : zs.length ≤ 9223372036854775807) (hcap : zs.length ≤ cap) :
  Calls Tryz.prog 70 #[.slice (some ⟨blk, off, none⟩) zs.length cap] w fun e w' => e = .returned (.slice (some ⟨blk, off, none⟩) (Lib.compact zs).length cap) ∧ ∃ q, w' = putRow encStr (Sort.ahead w q) blk off (Lib.compact zs ++ List.replicate (zs.length - (Lib.compact zs).length) []).toArray := Any.slices_Compact_string Tryz.lays194 blk off cap zs w hH hsz hcap
open Go.RowKit Go.Lib Go.Sort in
theorem Tryz.slices_Compact_string_empty (a : Option Addr) (cap : Nat) (w : World) :
  Calls Tryz.prog 70 #[.slice a 0 cap] w fun e w' => e = .returned (.slice a 0 cap) ∧ w' = w := Any.slices_Compact_string_empty Tryz.lays194 a cap w
open Go.RowKit Go.Sort in
theorem Tryz.slices_Sort_string_none (p : Option Addr) (cap : Nat) (w : World) :
  Calls Tryz.prog 69 #[.slice p 0 cap] w fun e w' => e = .returned (.tuple #[]) ∧ w' = w := Any.slices_Sort_string_none Tryz.lays190 p cap w
end Go.Proofs
namespace Go.Proofs.YtmfokpfddponjaaGreatDoor
open Go.Sy
def stL (b : List UInt8) : List D := [.st b]
theorem arr2 {vs : Array Value} (h : vs.size = 2) : vs = #[vs.getD 0 undef, vs.getD 1 undef] := by
 apply Array.ext
 ·simpa using h
 ·intro i h1 h2
  have : i = 0 ∨ i = 1 := by simp at h2; omega
  rcases this with rfl | rfl <;> simp [Array.getD, h]
theorem join_ok (xs : List (List UInt8)) (sep : List UInt8) (hn : xs.length ≤ 1000000) (hl : (Lib.join xs sep).length ≤ 140737488355328) : FnC Tryz.prog 72 [.d (.fs 1 (xs.map stL)), .d (.st sep)] (.d (.st (Lib.join xs sep))) := by
 refine ⟨rfl, fun g w vs hfz hsz hav => .inl ⟨Tryz.call72 _ _, ?_⟩⟩
 have ha := hav 0 (by simp)
 have hb := hav 1 (by simp)
 rw [arr2 hsz]
 simp only [List.getElem_cons_zero, List.getElem_cons_succ] at ha hb
 generalize vs.getD 0 undef = a at ha
 generalize vs.getD 1 undef = b at hb
 cases hb with | d _ _ hb => ?_
 cases hb with | st => ?_
 cases ha with | d _ _ ha => ?_
 generalize hes : xs.map stL = es at ha
 cases ha with
 | fs0 _ ad cap =>
  have : xs = [] := by simpa using hes
  subst this
  refine (Tryz.strings_Join_none ad cap _ w).mono ?_
  rintro e w' ⟨rfl, rfl⟩
  exact ⟨_, g, rfl, .d _ _ (.st []), fun _ _ _ h => h, fun _ _ _ h => .inl h, hfz, Nat.le_refl _, fun _ _ => rfl, rfl, rfl, rfl⟩
 | fs _ _ b off len cap f hlen hc hs hF hr =>
  by_cases h0 : xs = []
  ·subst h0
   have hl0 : len = 0 := by rw [← hlen, ← hes]; rfl
   subst hl0
   refine (Tryz.strings_Join_none _ cap _ w).mono ?_
   rintro e w' ⟨rfl, rfl⟩
   exact ⟨_, g, rfl, .d _ _ (.st []), fun _ _ _ h => h, fun _ _ _ h => .inl h, hfz, Nat.le_refl _, fun _ _ => rfl, rfl, rfl, rfl⟩
  have hxl : xs.length = len := by rw [← hlen, ← hes]; simp
  have hval : ∀ j (hj : j < xs.length), f j 0 = .string ⟨xs[j].toArray⟩ := fun j hj => by
   subst hes
   have hr := hr j (by simpa using hj) 0 (by simp [stL])
   simp only [List.getElem_map, stL, List.getElem_cons_zero] at hr
   generalize f j 0 = z at hr
   cases hr; rfl
  have hcell : ∀ j (hj : j < xs.length), w.cell? ⟨b, off + j, none⟩ = some (.string ⟨xs[j].toArray⟩) := fun j hj => by
   have := hfz _ _ _ (hF j 0 (by omega) (by omega))
   rw [hval j hj] at this
   rw [← this]; simp
  have hpos : 0 < xs.length := by
   rcases Nat.eq_zero_or_pos xs.length with h | h
   ·exact absurd (List.length_eq_zero_iff.1 h) h0
   ·exact h
  have hbk : b < w.heap.size := by
   have := hcell 0 hpos
   rcases Nat.lt_or_ge b w.heap.size with h' | h'
   ·exact h'
   ·simp [World.cell?, Array.getElem?_eq_none h'] at this
  have hxs : (xs.map fun x => (⟨x.toArray⟩ : ByteArray)).map (·.data.toList) = xs := by
   rw [List.map_map]
   exact List.map_id' xs
  have := Tryz.strings_Join b off cap (xs.map fun x => (⟨x.toArray⟩ : ByteArray)) ⟨sep.toArray⟩ w (fun j x hj => by
   simp only [List.getElem?_map, Option.map_eq_some_iff] at hj
   obtain ⟨y, hy, rfl⟩ := hj
   obtain ⟨hj', rfl⟩ := List.getElem?_eq_some_iff.1 hy
   exact hcell j hj') hbk (by simp; omega) (by simp; omega) (by rw [hxs]; simpa using hl)
  rw [hxs] at this
  simp only [List.length_map, hxl] at this
  refine this.mono ?_
  rintro e w' ⟨rfl, hB⟩
  exact ⟨_, g, rfl, .d _ _ (.st _), fun _ _ _ h => h, fun _ _ _ h => .inl h, fun b' o v h => by
   have hc := hfz b' o v h
   have hb' : b' < w.heap.size := by
    rcases Nat.lt_or_ge b' w.heap.size with h' | h'
    ·exact h'
    ·simp [World.cell?, Array.getElem?_eq_none h'] at hc
   rw [← hc]
   simp only [World.cell?, hB.block b' hb'], hB.size, hB.block, hB.os, hB.tape, hB.output⟩
theorem two_st {g : Gh} {vs : Array Value} {s t : List UInt8} (hsz : vs.size = 2) (hav : ∀ (j : Nat) (h : j < [AV.d (.st s), AV.d (.st t)].length), AVR g [AV.d (.st s), AV.d (.st t)][j] (vs.getD j undef)) : vs = #[.string ⟨s.toArray⟩, .string ⟨t.toArray⟩] := by
 have ha := hav 0 (by simp)
 have hb := hav 1 (by simp)
 rw [arr2 hsz]
 simp only [List.getElem_cons_zero, List.getElem_cons_succ] at ha hb
 generalize vs.getD 0 undef = a at ha
 generalize vs.getD 1 undef = b at hb
 cases hb with | d _ _ hb => ?_
 cases hb with | st => ?_
 cases ha with | d _ _ ha => ?_
 cases ha with | st => ?_
 rfl
theorem still_ok {f : Nat} {s t : List UInt8} {k : Int} (hc : ∀ (vs : Array Value) (w : World), (callFunc f vs).run Tryz.prog w = .ok (.enter f vs) w) (h : ∀ w, Calls Tryz.prog f #[.string ⟨s.toArray⟩, .string ⟨t.toArray⟩] w fun e w' => e = .returned (.int .i64 k) ∧ w' = w) : FnC Tryz.prog f [.d (.st s), .d (.st t)] (.d (.it .i64 k)) := by
 refine ⟨rfl, fun g w vs hfz hsz hav => .inl ⟨hc _ _, ?_⟩⟩
 rw [two_st hsz hav]
 refine (h w).mono ?_
 rintro e w' ⟨rfl, rfl⟩
 exact ⟨_, g, rfl, .d _ _ (.it _ _), fun _ _ _ h => h, fun _ _ _ h => .inl h, hfz, Nat.le_refl _, fun _ _ => rfl, rfl, rfl, rfl⟩
theorem index_ok (s : List UInt8) (c : UInt8) : FnC Tryz.prog 101 [.d (.st s), .d (.st [c])] (.d (.it .i64 (Lib.indexByte s c))) := still_ok Tryz.call101 fun w => Tryz.strings_Index_one ⟨s.toArray⟩ c w
theorem count_ok (s : List UInt8) (c : UInt8) : FnC Tryz.prog 100 [.d (.st s), .d (.st [c])] (.d (.it .i64 (Lib.countByte s c))) := still_ok Tryz.call100 fun w => Tryz.strings_Count_one ⟨s.toArray⟩ c w
theorem wordsC_none (c : UInt8) : ∀ (s : List UInt8), Lib.indexByte s c = -1 → wordsC c s = [s]
 | [], _ => rfl
 | b :: t, h => by
  unfold Lib.indexByte at h
  have hge := Lib.indexByte_ge t c
  by_cases hb : b = c
  ·obtain rfl := hb; simp at h
  ·have hb' : (b == c) = false := beq_eq_false_iff_ne.2 hb
   rw [hb'] at h
   simp only [Bool.false_eq_true, if_false] at h
   have ht : Lib.indexByte t c = -1 := by
    by_cases h1 : Lib.indexByte t c = -1
    ·exact h1
    ·have : (Lib.indexByte t c == -1) = false := by simpa using h1
     rw [this] at h
     simp only [Bool.false_eq_true, if_false] at h
     omega
   simp only [wordsC, if_neg hb, wordsC_none c t ht]
theorem wordsC_some (c : UInt8) : ∀ (s : List UInt8), 0 ≤ Lib.indexByte s c → Lib.indexByte s c < s.length ∧ wordsC c s = s.take (Lib.indexByte s c).toNat :: wordsC c (s.drop ((Lib.indexByte s c).toNat + 1)) ∧ s.count c = 1 + (s.drop ((Lib.indexByte s c).toNat + 1)).count c
 | [], h => by simp [Lib.indexByte] at h
 | b :: t, h => by
  have hge := Lib.indexByte_ge t c
  by_cases hb : b = c
  ·obtain rfl := hb
   have e : Lib.indexByte (b :: t) b = 0 := by simp [Lib.indexByte]
   rw [e]
   refine ⟨by simp, by simp [wordsC], by simp; omega⟩
  ·have hb' : (b == c) = false := beq_eq_false_iff_ne.2 hb
   have e : Lib.indexByte (b :: t) c = if Lib.indexByte t c == -1 then -1 else Lib.indexByte t c + 1 := by simp [Lib.indexByte, hb]
   rw [e] at h ⊢
   by_cases h1 : Lib.indexByte t c = -1
   ·rw [h1] at h; simp at h
   ·have h2 : (Lib.indexByte t c == -1) = false := by simpa using h1
    rw [h2] at h ⊢
    simp only [Bool.false_eq_true, if_false] at h ⊢
    obtain ⟨k1, k2, k3⟩ := wordsC_some c t (by omega)
    have hn : (Lib.indexByte t c + 1).toNat = (Lib.indexByte t c).toNat + 1 := by omega
    rw [hn]
    refine ⟨by simp; omega, ?_, ?_⟩
    ·simp only [wordsC, if_neg hb, k2, List.take_succ_cons, List.drop_succ_cons]
    ·simp only [List.drop_succ_cons, List.count_cons, hb', Bool.false_eq_true, if_false, Nat.add_zero]
     exact k3
theorem countC_none (c : UInt8) : ∀ (s : List UInt8), Lib.indexByte s c = -1 → s.count c = 0 := by
 intro s
 induction s with
 | nil => intro _; rfl
 | cons b t ih =>
  intro h
  have hge := Lib.indexByte_ge t c
  by_cases hb : b = c
  ·obtain rfl := hb; simp [Lib.indexByte] at h
  ·have e : Lib.indexByte (b :: t) c = if Lib.indexByte t c == -1 then -1 else Lib.indexByte t c + 1 := by simp [Lib.indexByte, hb]
   rw [e] at h
   by_cases h1 : Lib.indexByte t c = -1
   ·have hb' : (b == c) = false := beq_eq_false_iff_ne.2 hb
    simp only [List.count_cons, hb', Bool.false_eq_true, if_false, Nat.add_zero]
    exact ih h1
   ·have h2 : (Lib.indexByte t c == -1) = false := by simpa using h1
    rw [h2] at h
    simp only [Bool.false_eq_true, if_false] at h
    omega
theorem wordsC_len (c : UInt8) (s : List UInt8) : (wordsC c s).length = s.count c + 1 := by
 induction s with
 | nil => rfl
 | cons b t ih =>
  by_cases hb : b = c
  ·obtain rfl := hb; simp [wordsC, ih]
  ·have hb' : (b == c) = false := beq_eq_false_iff_ne.2 hb
   simp only [wordsC, if_neg hb, List.count_cons, hb', Bool.false_eq_true, if_false, Nat.add_zero]
   rw [← ih]
   cases h : wordsC c t with
   | nil => rw [h] at ih; simp at ih
   | cons w r => simp
end Go.Proofs.YtmfokpfddponjaaGreatDoor
namespace Go.Proofs.YtmfokpfddponjaaGreatDoor
open Go.Sy
def stA (b : List UInt8) : AV := .d (.st b)
def gsA (c : UInt8) (n : Nat) : List (List UInt8) × List UInt8 → S | (x, s) => ⟨[(0, .d (.st s)), (1, .d (.st [c])), (2, .d (.it .i64 0)), (3, .d (.it .i64 n)), (9, .ms 1 1 0 (n + 1) (n + 1)), (10, .d (.it .i64 x.length))], [(1, .cells (n + 1) (x.map stA ++ List.replicate (n + 1 - x.length) (stA [])))], 2⟩
theorem zeros_st (n : Nat) : (zeros n [D.st []]).map toA = List.replicate n (stA []) := by
 induction n with
 | zero => rfl
 | succ n ih => simp only [zeros, List.map_append, ih, List.replicate_succ]; rfl
theorem idx_lt (c : UInt8) (r : List UInt8) : Lib.indexByte r c < r.length := by
 by_cases h : 0 ≤ Lib.indexByte r c
 ·exact (wordsC_some c r h).1
 ·omega
theorem none_of {c : UInt8} {r : List UInt8} (h : r.count c = 0) : Lib.indexByte r c = -1 := by
 by_cases h0 : 0 ≤ Lib.indexByte r c
 ·have := (wordsC_some c r h0).2.2
  omega
 ·have := Lib.indexByte_ge r c
  omega
theorem upd_row (x : List AV) (m : Nat) (z v : AV) : (x ++ List.replicate m z).take x.length ++ [v] ++ (x ++ List.replicate m z).drop (x.length + 1) = x ++ v :: List.replicate (m - 1) z := by
 rw [List.take_left, List.drop_append, List.drop_eq_nil_of_le (by omega), List.nil_append, List.append_assoc]
 congr 1
 simp [show x.length + 1 - x.length = 1 by omega]
theorem flat_st (x : List (List UInt8)) : ((x.map stL).flatten).map AV.d = x.map stA := by
 induction x with
 | nil => rfl
 | cons a t ih => simp only [List.map_cons, List.flatten_cons, List.map_append, ih]; rfl
theorem all_stA (l : List (List UInt8)) (m : Nat) : (l.map stA).all (AV.lt1 m) = true := by
 rw [List.all_eq_true]
 intro x hx
 obtain ⟨b, _, rfl⟩ := List.mem_map.1 hx
 rfl
theorem fin_of (x : List (List UInt8)) (r : List UInt8) (n : Nat) (hl : x.length = n) : (List.drop 0 ((x.map stA ++ List.replicate (n + 1 - x.length) (stA [])).take x.length ++ [AV.d (.st r)] ++ (x.map stA ++ List.replicate (n + 1 - x.length) (stA [])).drop (x.length + 1))).take (((x.length : Int) + 1).toNat * 1) = List.map AV.d (List.map stL (x ++ [r])).flatten := by
 have := upd_row (x.map stA) (n + 1 - x.length) (stA []) (.d (.st r))
 rw [List.length_map] at this
 rw [List.drop_zero, this, flat_st, show n + 1 - x.length - 1 = 0 by omega]
 rw [List.take_of_length_le (by rw [List.length_append, List.length_map]; simp), List.map_append]; rfl
theorem genSplit_ok (c : UInt8) (s : List UInt8) (hs : s.length ≤ 1000000) : FnC Tryz.prog 76 [.d (.st s), .d (.st [c]), .d (.it .i64 0), .d (.it .i64 (-1))] (.d (.fs 1 ((wordsC c s).map stL))) := by
 refine FnC.intro ti_ok Tryz.func76 rfl Tryz.ntmps76 Tryz.call76 rfl (Nat.le_of_ble_eq_true rfl) rfl ?_
 have hcnt : s.count c ≤ s.length := List.count_le_length
 have hc0 : Lib.countByte s c = s.count c := rfl
 (repeat' ((conv=>whnf);first|with_reducible refine gA ?_|refine CallE.con ⟨_, count_ok s c, ?_⟩ | with_reducible refine LetI.eq ((s.count c + 1 : Nat) : Int) (by split <;> omega) ?_ | with_reducible refine LetN.eq (s.count c + 1) (by omega) ?_|(with_reducible first|refine gB ?_|refine gZ (fun x hx hu=>?_)|refine gY (fun x hx=>?_)|refine gE ?_|refine Both.mk ?_ ?_|refine gS (fun h=>?_) (fun h=>?_)|refine Spl.nt ?_|refine Spl.mk (fun h=>?_) (fun h=>?_))))
 have hz := zeros_st (s.count c + 1)
 refine loop_rule ti_ok (fun x : List (List UInt8) × List UInt8 => wordsC c s = x.1 ++ wordsC c x.2 ∧ x.1.length + x.2.count c = s.count c ∧ x.2.length ≤ s.length) (gsA c (s.count c)) (fun x => s.count c - x.1.length) ([], s) ⟨rfl, by simp, Nat.le_refl _⟩ ⟨⟨rfl, rfl, rfl, it_eq ?_, rfl, rfl, trivial⟩, ⟨cells_eq (Nat.mul_one _) hz, trivial⟩, ?_⟩ ?_
 ·omega
 ·simp only [S.ok, gsA, List.all_cons, List.all_nil, List.map_nil, List.nil_append, Ob.lt]
  rw [List.all_eq_true.2 (fun x hx => by rw [List.eq_of_mem_replicate hx]; rfl)]
  rfl
 intro ⟨x, r⟩ ⟨i1, i2, i3⟩
 simp only at i1 i2 i3
 have hlt := idx_lt c r
 (repeat' ((conv=>whnf);first|with_reducible refine gA ?_|refine CallE.con ⟨_, index_ok r c, ?_⟩ | with_reducible refine LetN.eq x.length (by dsimp only; omega) ?_|(with_reducible first|refine gB ?_|refine gZ (fun x hx hu=>?_)|refine gY (fun x hx=>?_)|refine gE ?_|refine Both.mk ?_ ?_|refine gS (fun h=>?_) (fun h=>?_)|refine Spl.nt ?_|refine Spl.mk (fun h=>?_) (fun h=>?_))))
 ·have hn : Lib.indexByte r c = -1 := by have := Lib.indexByte_ge r c; omega
  have h0 := countC_none c r hn
  have hl : x.length = s.count c := by omega
  refine ⟨(wordsC c s).map stL, ⟨?_, ?_, ?_, ?_⟩, rfl⟩
  ·dsimp only; omega
  ·simp only [List.length_map, wordsC_len c]; omega
  ·intro y hy
   obtain ⟨z, _, rfl⟩ := List.mem_map.1 hy
   rfl
  ·rw [i1, wordsC_none c r hn]
   exact fin_of x r _ hl
 ·have h0 : 0 ≤ Lib.indexByte r c := by omega
  obtain ⟨k1, k2, k3⟩ := wordsC_some c r h0
  have e1 : (Lib.indexByte r c + ([c] : List UInt8).length).toNat = (Lib.indexByte r c).toNat + 1 := by simp only [List.length_cons, List.length_nil]; omega
  refine again ((x ++ [r.take (Lib.indexByte r c).toNat], r.drop ((Lib.indexByte r c).toNat + 1)) : List (List UInt8) × List UInt8) ⟨?_, ?_, ?_⟩ (by show _ - (x ++ _).length < _ - x.length; rw [List.length_append, List.length_singleton]; omega) (And.intro (st_eq ?_) (And.intro rfl (And.intro rfl (And.intro rfl (And.intro rfl (And.intro (it_eq ?_) trivial)))))) (And.intro (cells_eq rfl ?_) trivial) ?_
  ·rw [i1, k2, List.append_assoc]; rfl
  ·show (x ++ _).length + (List.drop _ r).count c = _
   rw [List.length_append, List.length_singleton]; omega
  ·show (List.drop _ r).length ≤ _
   rw [List.length_drop]; omega
  ·rw [e1]
  ·rw [List.length_append, List.length_singleton]; rfl
  ·have := upd_row (x.map stA) (s.count c + 1 - x.length) (stA []) (stA (r.take (Lib.indexByte r c).toNat))
   rw [List.length_map] at this
   rw [List.map_append, List.length_append, List.length_singleton]
   refine Eq.trans ?_ (this.trans ?_)
   ·simp only [Int.add_zero]; rfl
   ·rw [show s.count c + 1 - x.length - 1 = s.count c + 1 - (x.length + 1) by omega, List.append_assoc]; rfl
  ·simp only [S.ok, gsA, List.all_cons, List.all_nil, Ob.lt, List.all_append, all_stA]
   rw [List.all_eq_true.2 (fun x hx => by rw [List.eq_of_mem_replicate hx]; rfl)]
   rfl
 ·have hn : Lib.indexByte r c = -1 := none_of (by omega)
  have h0 := countC_none c r hn
  have hl : x.length = s.count c := by omega
  refine ⟨(wordsC c s).map stL, ⟨?_, ?_, ?_, ?_⟩, rfl⟩
  ·dsimp only; omega
  ·simp only [List.length_map, wordsC_len c]; omega
  ·intro y hy
   obtain ⟨z, _, rfl⟩ := List.mem_map.1 hy
   rfl
  ·rw [i1, wordsC_none c r hn]
   exact fin_of x r _ hl
theorem split_ok (c : UInt8) (s : List UInt8) (hs : s.length ≤ 1000000) : FnC Tryz.prog 53 [.d (.st s), .d (.st [c])] (.d (.fs 1 ((wordsC c s).map stL))) := by
 refine FnC.intro ti_ok Tryz.func53 rfl Tryz.ntmps53 Tryz.call53 rfl (Nat.le_of_ble_eq_true rfl) rfl ?_
 (repeat' ((conv=>whnf);first|with_reducible refine gA ?_|refine CallE.con ⟨_, genSplit_ok c s hs, ?_⟩|(with_reducible first|refine gB ?_|refine gZ (fun x hx hu=>?_)|refine gY (fun x hx=>?_)|refine gE ?_|refine Both.mk ?_ ?_|refine gS (fun h=>?_) (fun h=>?_)|refine Spl.nt ?_|refine Spl.mk (fun h=>?_) (fun h=>?_))))
 rfl
end Go.Proofs.YtmfokpfddponjaaGreatDoor
namespace Go.Proofs.YtmfokpfddponjaaGreatDoor
open Go.Sy
theorem trimS_nil {s : List UInt8} : (trimS s == []) = s.all signB := by
 have key : ∀ l : List UInt8, l.dropWhile signB = [] ↔ l.all signB = true := by
  intro l
  induction l with
  | nil => simp
  | cons a l ih =>
   rw [List.all_cons, Bool.and_eq_true]
   cases ha : signB a with
   | true => rw [List.dropWhile_cons_of_pos ha, ih]; simp
   | false => rw [List.dropWhile_cons_of_neg (by simp [ha])]; simp
 have hall : trimS s = [] ↔ s.all signB = true := by
  rw [trimS, key, trimR]
  constructor
  ·intro h
   by_cases h0 : s.all signB = true
   ·exact h0
   ·exfalso
    have hne : s.reverse.dropWhile signB ≠ [] := fun he => h0 (by rw [← List.all_reverse]; exact (key _).1 he)
    have hd := List.head_dropWhile_not signB hne
    rw [List.all_reverse] at h
    have := List.all_eq_true.1 h _ (List.head_mem hne)
    rw [this] at hd; cases hd
  ·intro h
   rw [List.all_reverse, (key _).2 (by rw [List.all_reverse]; exact h)]; rfl
 cases h : s.all signB with
 | true => rw [hall.2 h]; rfl
 | false =>
  have : trimS s ≠ [] := fun he => by rw [hall.1 he] at h; cases h
  simpa using this
theorem name_ok (s : List UInt8) : FnC Tryz.prog 56 [.d (.st s)] (.d (.bl (nameB s))) := by
 refine FnC.intro ti_ok Tryz.func56 rfl Tryz.ntmps56 Tryz.call56 rfl (Nat.le_of_ble_eq_true rfl) rfl ?_
 by_cases h0 : s = []
 ·subst h0
  (repeat' ((conv=>whnf);first|with_reducible refine gA ?_|(with_reducible first|refine gB ?_|refine gZ (fun x hx hu=>?_)|refine gY (fun x hx=>?_)|refine gE ?_|refine Both.mk ?_ ?_|refine gS (fun h=>?_) (fun h=>?_)|refine Spl.nt ?_|refine Spl.mk (fun h=>?_) (fun h=>?_))))
  rfl
 have hp : 1 ≤ s.length := List.length_pos_iff.2 h0
 by_cases h8 : s.length ≤ 8
 ·by_cases h1 : s = [46]
  ·subst h1
   (repeat' ((conv=>whnf);first|with_reducible refine gA ?_|(with_reducible first|refine gB ?_|refine gZ (fun x hx hu=>?_)|refine gY (fun x hx=>?_)|refine gE ?_|refine Both.mk ?_ ?_|refine gS (fun h=>?_) (fun h=>?_)|refine Spl.nt ?_|refine Spl.mk (fun h=>?_) (fun h=>?_))))
   rfl
  by_cases h2 : s = [46, 46]
  ·subst h2
   (repeat' ((conv=>whnf);first|with_reducible refine gA ?_|(with_reducible first|refine gB ?_|refine gZ (fun x hx hu=>?_)|refine gY (fun x hx=>?_)|refine gE ?_|refine Both.mk ?_ ?_|refine gS (fun h=>?_) (fun h=>?_)|refine Spl.nt ?_|refine Spl.mk (fun h=>?_) (fun h=>?_))))
   rfl
  rw [nameB_yes hp h8 h1 h2, ← trimS_nil]
  (repeat' ((conv=>whnf);first|with_reducible refine gA ?_|refine CallE.con ⟨_, trim_ok s h0 (by omega), ?_⟩|(with_reducible first|refine gB ?_|refine gZ (fun x hx hu=>?_)|refine gY (fun x hx=>?_)|refine gE ?_|refine Both.mk ?_ ?_|refine gS (fun h=>?_) (fun h=>?_)|refine Spl.nt ?_|refine Spl.mk (fun h=>?_) (fun h=>?_))))
  rfl
 ·rw [nameB_no (by omega)]
  (repeat' ((conv=>whnf);first|with_reducible refine gA ?_|(with_reducible first|refine gB ?_|refine gZ (fun x hx hu=>?_)|refine gY (fun x hx=>?_)|refine gE ?_|refine Both.mk ?_ ?_|refine gS (fun h=>?_) (fun h=>?_)|refine Spl.nt ?_|refine Spl.mk (fun h=>?_) (fun h=>?_))))
  rfl
theorem hasPre_ok (s : List UInt8) : FnC Tryz.prog 98 [.d (.st s), .d (.st [47])] (.d (.bl (s.head? == some 47))) := by
 refine FnC.intro ti_ok Tryz.func98 rfl Tryz.ntmps98 Tryz.call98 rfl (Nat.le_of_ble_eq_true rfl) rfl ?_
 match s with
 | [] =>
  (repeat' ((conv=>whnf);first|with_reducible refine gA ?_|(with_reducible first|refine gB ?_|refine gZ (fun x hx hu=>?_)|refine gY (fun x hx=>?_)|refine gE ?_|refine Both.mk ?_ ?_|refine gS (fun h=>?_) (fun h=>?_)|refine Spl.nt ?_|refine Spl.mk (fun h=>?_) (fun h=>?_))))
  rfl
 | b :: r =>
  (repeat' ((conv=>whnf);first|with_reducible refine gA ?_|(with_reducible first|refine gB ?_|refine gZ (fun x hx hu=>?_)|refine gY (fun x hx=>?_)|refine gE ?_|refine Both.mk ?_ ?_|refine gS (fun h=>?_) (fun h=>?_)|refine Spl.nt ?_|refine Spl.mk (fun h=>?_) (fun h=>?_))))
  ·refine bl_eq ?_
   show ([b] == [47]) = (some b == some 47)
   by_cases hb : b = 47
   ·subst hb; rfl
   ·rw [seq_ff (by simpa using hb)]; exact (beq_eq_false_iff_ne.2 (by simpa using hb)).symm
  ·exfalso; simp at h; omega
theorem tup_st {a b : List UInt8} {x : AV} (h : a = b) : AV.tup [.d (.st a), x] = AV.tup [.d (.st b), x] := by rw [h]
theorem cutsP_1 (r : List UInt8) : FnC Tryz.prog 75 [.d (.st (47 :: r)), .d (.st [47])] (.tup [.d (.st r), .d (.bl true)]) := by
 refine FnC.intro ti_ok Tryz.func75 rfl Tryz.ntmps75 Tryz.call75 rfl (Nat.le_of_ble_eq_true rfl) rfl ?_
 have h : FnC Tryz.prog 98 [.d (.st (47 :: r)), .d (.st [47])] (.d (.bl true)) := hasPre_ok (47 :: r)
 (repeat' ((conv=>whnf);first|with_reducible refine gA ?_|refine CallE.con ⟨_, h, ?_⟩|(with_reducible first|refine gB ?_|refine gZ (fun x hx hu=>?_)|refine gY (fun x hx=>?_)|refine gE ?_|refine Both.mk ?_ ?_|refine gS (fun h=>?_) (fun h=>?_)|refine Spl.nt ?_|refine Spl.mk (fun h=>?_) (fun h=>?_))))
 exact tup_st (by simp)
theorem cutsP_0 (s : List UInt8) (hs : s.head? ≠ some 47) : FnC Tryz.prog 75 [.d (.st s), .d (.st [47])] (.tup [.d (.st s), .d (.bl false)]) := by
 refine FnC.intro ti_ok Tryz.func75 rfl Tryz.ntmps75 Tryz.call75 rfl (Nat.le_of_ble_eq_true rfl) rfl ?_
 have h := hasPre_ok s
 rw [show (s.head? == some 47) = false by simpa using hs] at h
 (repeat' ((conv=>whnf);first|with_reducible refine gA ?_|refine CallE.con ⟨_, h, ?_⟩|(with_reducible first|refine gB ?_|refine gZ (fun x hx hu=>?_)|refine gY (fun x hx=>?_)|refine gE ?_|refine Both.mk ?_ ?_|refine gS (fun h=>?_) (fun h=>?_)|refine Spl.nt ?_|refine Spl.mk (fun h=>?_) (fun h=>?_))))
 rfl
theorem cutP_1 (r : List UInt8) : FnC Tryz.prog 52 [.d (.st (47 :: r)), .d (.st [47])] (.tup [.d (.st r), .d (.bl true)]) := by
 refine FnC.intro ti_ok Tryz.func52 rfl Tryz.ntmps52 Tryz.call52 rfl (Nat.le_of_ble_eq_true rfl) rfl ?_
 (repeat' ((conv=>whnf);first|with_reducible refine gA ?_|refine CallE.con ⟨_, cutsP_1 r, ?_⟩|(with_reducible first|refine gB ?_|refine gZ (fun x hx hu=>?_)|refine gY (fun x hx=>?_)|refine gE ?_|refine Both.mk ?_ ?_|refine gS (fun h=>?_) (fun h=>?_)|refine Spl.nt ?_|refine Spl.mk (fun h=>?_) (fun h=>?_))))
 rfl
theorem cutP_0 (s : List UInt8) (hs : s.head? ≠ some 47) : FnC Tryz.prog 52 [.d (.st s), .d (.st [47])] (.tup [.d (.st s), .d (.bl false)]) := by
 refine FnC.intro ti_ok Tryz.func52 rfl Tryz.ntmps52 Tryz.call52 rfl (Nat.le_of_ble_eq_true rfl) rfl ?_
 (repeat' ((conv=>whnf);first|with_reducible refine gA ?_|refine CallE.con ⟨_, cutsP_0 s hs, ?_⟩|(with_reducible first|refine gB ?_|refine gZ (fun x hx hu=>?_)|refine gY (fun x hx=>?_)|refine gE ?_|refine Both.mk ?_ ?_|refine gS (fun h=>?_) (fun h=>?_)|refine Spl.nt ?_|refine Spl.mk (fun h=>?_) (fun h=>?_))))
 rfl
def tupP (p : List (List UInt8) × Int) : AV := .tup [.d (.fs 1 (p.1.map stL)), .d (.it .i64 p.2)]
theorem all_snocX {α : Type} {f : α → Bool} {l : List α} {k : Nat} {c : α} (h : l[k]? = some c) : (l.take (k + 1)).all f = ((l.take k).all f && f c) := by
 rw [take_snoc h, List.all_append]; simp
theorem not_allX {α : Type} {f : α → Bool} {l : List α} {k : Nat} {c : α} (h : l[k]? = some c) (hc : f c = false) : l.all f = false := by
 rw [List.all_eq_false]
 exact ⟨c, List.mem_of_getElem? h, by simp [hc]⟩
theorem splitP_9 {r : List UInt8} (h : ¬ 47 :: r = [47]) (hc : 4 < (wordsC 47 r).length ∨ (wordsC 47 r).all nameB = false) : splitP (47 :: r) = ([], 9) := by
 rw [splitP, if_neg h]
 simp only [if_true]
 rw [if_neg]
 rintro ⟨h1, h2⟩
 rcases hc with hc | hc
 ·omega
 ·rw [h2] at hc; cases hc
theorem splitP_0 {r : List UInt8} (h : ¬ 47 :: r = [47]) (h1 : (wordsC 47 r).length ≤ 4) (h2 : (wordsC 47 r).all nameB = true) : splitP (47 :: r) = (wordsC 47 r, 0) := by
 rw [splitP, if_neg h]
 simp only [if_true]
 rw [if_pos ⟨h1, h2⟩]
theorem splitP_b {b : UInt8} {r : List UInt8} (h : ¬ b = 47) : splitP (b :: r) = ([], 9) := by
 rw [splitP, if_neg (by simp [h])]
 simp only [if_neg h]
theorem pathSplit_ok (p : List UInt8) (hp : p.length ≤ 100000) : FnC Tryz.prog 26 [.d (.st p)] (tupP (splitP p)) := by
 refine FnC.intro ti_ok Tryz.func26 rfl Tryz.ntmps26 Tryz.call26 rfl (Nat.le_of_ble_eq_true rfl) rfl ?_
 by_cases h1 : p = [47]
 ·subst h1
  (repeat' ((conv=>whnf);first|with_reducible refine gA ?_|(with_reducible first|refine gB ?_|refine gZ (fun x hx hu=>?_)|refine gY (fun x hx=>?_)|refine gE ?_|refine Both.mk ?_ ?_|refine gS (fun h=>?_) (fun h=>?_)|refine Spl.nt ?_|refine Spl.mk (fun h=>?_) (fun h=>?_))))
  rfl
 match p with
 | [] =>
  have hsp := split_ok 47 [] (by simp)
  (repeat' ((conv=>whnf);first|with_reducible refine gA ?_|refine CallE.con ⟨_, cutP_0 [] (by simp), ?_⟩ | refine CallE.con ⟨_, hsp, ?_⟩|(with_reducible first|refine gB ?_|refine gZ (fun x hx hu=>?_)|refine gY (fun x hx=>?_)|refine gE ?_|refine Both.mk ?_ ?_|refine gS (fun h=>?_) (fun h=>?_)|refine Spl.nt ?_|refine Spl.mk (fun h=>?_) (fun h=>?_))))
  rfl
 | b :: r =>
  by_cases hb : b = 47
  ·subst hb
   have hsp := split_ok 47 r (by simp at hp; omega)
   (repeat' ((conv=>whnf);first|with_reducible refine gA ?_|refine CallE.con ⟨_, cutP_1 r, ?_⟩ | refine CallE.con ⟨_, hsp, ?_⟩ | with_reducible refine CallI.inl ti_ok i54 rfl ?_ | with_reducible refine CallI.inl ti_ok i77 rfl ?_|(with_reducible first|refine gB ?_|refine gZ (fun x hx hu=>?_)|refine gY (fun x hx=>?_)|refine gE ?_|refine Both.mk ?_ ?_|refine gS (fun h=>?_) (fun h=>?_)|refine Spl.nt ?_|refine Spl.mk (fun h=>?_) (fun h=>?_))))
   ·have hl4 : 4 < (wordsC 47 r).length := by simp at h; omega
    exact (congrArg tupP (splitP_9 h1 (.inl hl4))).symm
   have hl4 : (wordsC 47 r).length ≤ 4 := by simp at h; omega
   generalize hl : wordsC 47 r = l at *
   refine loop_mem0 ti_ok (fun k : Nat => k ≤ l.length ∧ (l.take k).all nameB = true) (fun k => [(0, .d (.fs 1 (l.map stL))), (1, .fn (.func 55) [] []), (7, .d (.it .i64 l.length)), (8, .d (.it .i64 k))]) (fun k => l.length - k) 0 ⟨Nat.zero_le _, rfl⟩ ⟨rfl, rfl, it_eq (by simp), rfl, trivial⟩ rfl ?_
   intro k ⟨hk, ha⟩
   (repeat' ((conv=>whnf);first|with_reducible refine gA ?_|refine CallE.con ⟨_, name_ok x, ?_⟩ | with_reducible refine CallI.inl ti_ok i55 rfl ?_|(with_reducible first|refine gB ?_|refine gZ (fun x hx hu=>?_)|refine gY (fun x hx=>?_)|refine gE ?_|refine Both.mk ?_ ?_|refine gS (fun h=>?_) (fun h=>?_)|refine Spl.nt ?_|refine Spl.mk (fun h=>?_) (fun h=>?_))))
   ·refine againM0 (k + 1) ⟨by omega, by rw [all_snocX hx, ha]; simpa using h⟩ (by dsimp only; omega) (And.intro rfl (And.intro rfl (And.intro rfl (And.intro rfl trivial)))) ?_ rfl
    (repeat (first | exact trivial | refine And.intro rfl ?_))
   ·exact (congrArg tupP (splitP_9 h1 (.inr (by rw [hl]; exact not_allX hx (by simpa using h))))).symm
   ·have hkl : k = l.length := by omega
    rw [hkl, List.take_length] at ha
    refine Eq.trans ?_ (congrArg tupP (splitP_0 h1 (by rw [hl]; exact hl4) (by rw [hl]; exact ha))).symm
    rw [hl]; rfl
  ·have hsp := split_ok 47 (b :: r) (by simp at hp ⊢; omega)
   (repeat' ((conv=>whnf);first|with_reducible refine gA ?_|refine CallE.con ⟨_, cutP_0 (b :: r) (by simpa using hb), ?_⟩ | refine CallE.con ⟨_, hsp, ?_⟩|(with_reducible first|refine gB ?_|refine gZ (fun x hx hu=>?_)|refine gY (fun x hx=>?_)|refine gE ?_|refine Both.mk ?_ ?_|refine gS (fun h=>?_) (fun h=>?_)|refine Spl.nt ?_|refine Spl.mk (fun h=>?_) (fun h=>?_))))
   exact (congrArg tupP (splitP_b hb)).symm
end Go.Proofs.YtmfokpfddponjaaGreatDoor
namespace Go.Proofs.YtmfokpfddponjaaGreatDoor
open Go.Sy
def encS (s : List UInt8) : List D := s.map (fun b => .it .u8 b.toNat)
def zeroS : List UInt8 := List.replicate 32 0
theorem encS_len (s : List UInt8) : (encS s).length = s.length := List.length_map ..
theorem eqS : ∀ (s t : List UInt8), s.length = t.length → eqDs (encS s) (encS t) = decide (s = t)
 | [], [], _ => rfl
 | [], b :: t, h => by cases h
 | a :: s, [], h => by cases h
 | a :: s, b :: t, h => by
  have ih := eqS s t (by simpa using h)
  show (eqD (.it .u8 a.toNat) (.it .u8 b.toNat) && eqDs (encS s) (encS t)) = _
  rw [ih, Bool.eq_iff_iff]
  simp only [eqD, Bool.and_eq_true, beq_iff_eq, decide_eq_true_eq, List.cons.injEq]
  refine and_congr_left' ⟨fun h => UInt8.toNat.inj (by omega), fun h => by rw [h]⟩
theorem likeS : ∀ (s t : List UInt8), s.length = t.length → likes (encS s) (encS t) = true
 | [], [], _ => rfl
 | [], b :: t, h => by cases h
 | a :: s, [], h => by cases h
 | a :: s, b :: t, h => by
  have ih := likeS s t (by simpa using h)
  show (likeD (.it .u8 a.toNat) (.it .u8 b.toNat) && likes (encS s) (encS t)) = true
  rw [ih]; rfl
theorem likeSS (s t : List UInt8) (hs : s.length = 32) (ht : t.length = 32) : (true && (likes (encS zeroS) (encS s) && likes (encS zeroS) (encS t))) = true := by
 rw [likeS _ _ (by rw [hs]; rfl), likeS _ _ (by rw [ht]; rfl)]; rfl
theorem allD_map : ∀ (l : List D), Sy.allD (l.map AV.d) = some l
 | [] => rfl
 | x :: l => by show (match Sy.allD (l.map AV.d) with | some l => some (x :: l) | none => none) = _; rw [allD_map l]
theorem ld_sec {ty : Ty} (ha : ty.kd.agg = true) (hz : ty.size = 32) {s : List UInt8} (hs : s.length = 32) : ldA ty 0 ((encS s).map AV.d) = .dg 32 (encS s) := by
 unfold ldA
 rw [ha, cond_true, hz, List.drop_zero, List.take_of_length_le (by rw [List.length_map, encS_len, hs]; exact Nat.le_refl _)]
 unfold mkAg
 rw [allD_map]
theorem ld_byte {ty : Ty} (ha : ty.kd.agg = false) {s : List UInt8} {k : Nat} {b : UInt8} (hb : s[k]? = some b) : ldA ty k ((encS s).map AV.d) = .d (.it .u8 b.toNat) := by
 unfold ldA
 rw [ha, cond_false, List.getD_eq_getElem?_getD, List.getElem?_map, encS, List.getElem?_map, hb]; rfl
theorem zero_ok (s : List UInt8) (hs : s.length = 32) : FnC Tryz.prog 92 [.dg 32 (encS s)] (.d (.bl (decide (s = zeroS)))) := by
 refine FnC.intro ti_ok Tryz.func92 rfl Tryz.ntmps92 Tryz.call92 rfl (Nat.le_of_ble_eq_true rfl) rfl ?_
 (repeat' ((conv=>whnf);first|with_reducible refine gA ?_|refine AtA.eq (ld_sec rfl rfl hs) ?_ | refine cond_tt (likeSS s zeroS hs rfl) ?_|(with_reducible first|refine gB ?_|refine gZ (fun x hx hu=>?_)|refine gY (fun x hx=>?_)|refine gE ?_|refine Both.mk ?_ ?_|refine gS (fun h=>?_) (fun h=>?_)|refine Spl.nt ?_|refine Spl.mk (fun h=>?_) (fun h=>?_))))
 exact bl_eq (eqS s zeroS (by rw [hs]; rfl))
theorem fits_ok (a n : Int) : FnC Tryz.prog 126 [.d (.it .i64 a), .d (.it .i64 n)] (.d (.bl (decide (0 ≤ a ∧ a ≤ 32 ∧ 0 ≤ n ∧ n ≤ 32 - a)))) := by
 refine FnC.intro ti_ok Tryz.func126 rfl Tryz.ntmps126 Tryz.call126 rfl (Nat.le_of_ble_eq_true rfl) rfl ?_
 by_cases h0 : 0 ≤ a ∧ a ≤ 32
 all_goals (repeat' ((conv=>whnf);first|with_reducible refine gA ?_|(with_reducible first|refine gB ?_|refine gZ (fun x hx hu=>?_)|refine gY (fun x hx=>?_)|refine gE ?_|refine Both.mk ?_ ?_|refine gS (fun h=>?_) (fun h=>?_)|refine Spl.nt ?_|refine Spl.mk (fun h=>?_) (fun h=>?_))))
 all_goals refine bl_eq ?_
 all_goals first | (rw [eq_comm]; exact decide_eq_false (by omega)) | (rw [Bool.eq_iff_iff]; simp; omega)
end Go.Proofs.YtmfokpfddponjaaGreatDoor
namespace Go.Proofs.YtmfokpfddponjaaGreatDoor
open Go.Sy
structure Ent where
 u : Bool
 p : Int
 n : List UInt8
 t : Int
deriving DecidableEq
def encE (x : Ent) : List D := [.bl x.u, .it .i64 x.p, .st x.n, .it .i64 x.t]
def RE (x : Ent) : Prop := x.u = false ∧ x.p = 0 ∧ x.n = [] ∧ x.t = 0 ∨ x.u = true ∧ 0 ≤ x.p ∧ x.p < 16 ∧ 1 ≤ x.t ∧ x.t < 16 ∧ nameB x.n = true
instance (x : Ent) : Decidable (RE x) := by unfold RE; infer_instance
theorem e_ff {p : Prop} [Decidable p] (h : ¬ p) : AV.d (.bl false) = AV.d (.bl (decide p)) := by rw [decide_eq_false h]
theorem e_of {e : Bool} {p : Prop} [Decidable p] (h : e = true ↔ p) : AV.d (.bl e) = AV.d (.bl (decide p)) := by
 have : e = decide p := by rw [Bool.eq_iff_iff, h, decide_eq_true_eq]
 rw [this]
theorem eqE4 (a a' : Bool) (b b' : Int) (c c' : List UInt8) (d d' : Int) : eqDs [.bl a, .it .i64 b, .st c, .it .i64 d] [.bl a', .it .i64 b', .st c', .it .i64 d'] = decide (a = a' ∧ b = b' ∧ c = c' ∧ d = d') := by
 rw [Bool.eq_iff_iff]; simp [eqDs, eqD]
theorem e_tr {a b : Bool} {v : AV} (h : a = b) (h2 : AV.d (.bl b) = v) : AV.d (.bl a) = v := by rw [h, h2]
theorem re_ok (x : Ent) : FnC Tryz.prog 138 [.dg 4 (encE x)] (.d (.bl (decide (RE x)))) := by
 refine FnC.intro ti_ok Tryz.func138 rfl Tryz.ntmps138 Tryz.call138 rfl (Nat.le_of_ble_eq_true rfl) rfl ?_
 have hn := name_ok x.n
 cases hu : x.u with
 | false =>
  have hu' : (!x.u) = true := by rw [hu]; rfl
  (repeat' ((conv=>whnf);first|with_reducible refine gA ?_|(with_reducible first|refine gB ?_|refine gZ (fun x hx hu=>?_)|refine gY (fun x hx=>?_)|refine gE ?_|refine Both.mk ?_ ?_|refine gS (fun h=>?_) (fun h=>?_)|refine Spl.nt ?_|refine Spl.mk (fun h=>?_) (fun h=>?_))))
  exact e_tr (eqE4 _ _ _ _ _ _ _ _) (e_of (by simp [RE, hu]))
 | true =>
  have hu' : (!x.u) = false := by rw [hu]; rfl
  (repeat' ((conv=>whnf);first|with_reducible refine gA ?_|(refine CallE.con ⟨_, hn, ?_⟩) | with_reducible refine CallI.inl ti_ok i159 rfl ?_|(with_reducible first|refine gB ?_|refine gZ (fun x hx hu=>?_)|refine gY (fun x hx=>?_)|refine gE ?_|refine Both.mk ?_ ?_|refine gS (fun h=>?_) (fun h=>?_)|refine Spl.nt ?_|refine Spl.mk (fun h=>?_) (fun h=>?_))))
  all_goals first
   | (refine e_ff ?_; simp only [RE, hu]; simp; omega)
   | exact e_of ⟨fun hb => .inr ⟨hu, by omega, by omega, by omega, by omega, hb⟩, fun h => h.elim (fun h => by rw [hu] at h; cases h.1) fun h => h.2.2.2.2.2⟩
end Go.Proofs.YtmfokpfddponjaaGreatDoor
namespace Go.Proofs.YtmfokpfddponjaaGreatDoor
open Go.Sy
def by8e (n : Int) : UInt8 := UInt8.ofNat n.toNat
theorem by8e_ok {n : Int} (h : 0 ≤ n ∧ n < 256) : ((by8e n).toNat : Int) = n := by
 unfold by8e
 rw [UInt8.toNat_ofNat']
 omega
def entS (x : Ent) : List UInt8 := if x.u = true then [1, by8e x.p, by8e x.t, by8e x.n.length, 0, 0, 0, 0, 0, 0, 0, 0, 0, 0, 0, 0] ++ x.n ++ List.replicate (16 - x.n.length) 0 else zeroS
def c16 (x : Ent) : List D := [.it .u8 1, .it .u8 x.p, .it .u8 x.t, .it .u8 (x.n.length : Nat), .it .u8 0, .it .u8 0, .it .u8 0, .it .u8 0, .it .u8 0, .it .u8 0, .it .u8 0, .it .u8 0, .it .u8 0, .it .u8 0, .it .u8 0, .it .u8 0]
theorem st_all (l : List AV) : l = [] ++ l ++ [] := by simp
theorem bytes_flat : ∀ (n : List UInt8), (bytesD n).flatten = encS n
 | [] => rfl
 | b :: n => by show [D.it .u8 b.toNat] ++ (bytesD n).flatten = D.it .u8 b.toNat :: encS n; rw [bytes_flat n]; rfl
theorem encS_rep (k : Nat) : encS (List.replicate k 0) = List.replicate k (.it .u8 0) := by unfold encS; rw [List.map_replicate]; rfl
theorem entS_len (x : Ent) (hx : RE x) : (entS x).length = 32 := by
 unfold entS
 unfold RE at hx
 split
 ·rename_i hu
  rcases hx with h | ⟨_, _, _, _, _, hn⟩
  ·rw [hu] at h; cases h.1
  ·have : x.n.length ≤ 8 := by
    unfold nameB at hn
    simp only [Bool.and_eq_true, decide_eq_true_eq] at hn; omega
   simp; omega
 ·rfl
theorem entS_enc {x : Ent} (hu : x.u = true) (hp : 0 ≤ x.p ∧ x.p < 16) (ht : 0 ≤ x.t ∧ x.t < 16) (hn : x.n.length ≤ 16) :
  encS (entS x) = c16 x ++ encS x.n ++ List.replicate (16 - x.n.length) (.it .u8 0) := by
 unfold entS
 rw [if_pos hu]
 show encS (_ ++ x.n ++ _) = _
 unfold encS
 rw [List.map_append, List.map_append]
 have e2 : List.map (fun b : UInt8 => D.it .u8 b.toNat) [1, by8e x.p, by8e x.t, by8e x.n.length, 0, 0, 0, 0, 0, 0, 0, 0, 0, 0, 0, 0] = c16 x := by
  show [_, D.it .u8 (by8e x.p).toNat, D.it .u8 (by8e x.t).toNat, D.it .u8 (by8e x.n.length).toNat, _, _, _, _, _, _, _, _, _, _, _, _] = _
  rw [by8e_ok (by omega), by8e_ok (by omega), by8e_ok (by omega)]; rfl
 rw [e2]
 have e3 := encS_rep (16 - x.n.length)
 unfold encS at e3
 rw [e3]
theorem entS_cells {x : Ent} (hu : x.u = true) (hp : 0 ≤ x.p ∧ x.p < 16) (ht : 0 ≤ x.t ∧ x.t < 16) (hn : x.n.length ≤ 16) :
  (encS (entS x)).map AV.d = ((c16 x ++ List.replicate 16 (D.it .u8 0)).map AV.d).take 16 ++ (bytesD x.n).flatten.map AV.d ++ ((c16 x ++ List.replicate 16 (D.it .u8 0)).map AV.d).drop (16 + x.n.length * 1) := by
 have e1 := entS_enc hu hp ht hn
 have hl : (c16 x).length = 16 := rfl
 rw [e1, bytes_flat, List.map_append, List.map_append, List.map_append]
 have t1 : ((c16 x).map AV.d ++ (List.replicate 16 (D.it .u8 0)).map AV.d).take 16 = (c16 x).map AV.d := List.take_left' (by simp [hl])
 have t2 : ((c16 x).map AV.d ++ (List.replicate 16 (D.it .u8 0)).map AV.d).drop (16 + x.n.length * 1) = (List.replicate (16 - x.n.length) (D.it .u8 0)).map AV.d := by
  rw [List.drop_append, List.drop_eq_nil_of_le (by simp [hl]), List.nil_append, List.length_map, hl, List.map_replicate, List.map_replicate, List.drop_replicate]
  congr 1; omega
 rw [t1, t2]
theorem bytesD_l (n : List UInt8) : (bytesD n).length = n.length := by unfold bytesD; exact List.length_map ..
theorem entS_cells2 {x : Ent} {i j : Nat} (hi : i = 16) (hj : j = 16 + x.n.length * 1) (hu : x.u = true) (hp : 0 ≤ x.p ∧ x.p < 16) (ht : 0 ≤ x.t ∧ x.t < 16) (hn : x.n.length ≤ 16) :
  (encS (entS x)).map AV.d = ((c16 x ++ List.replicate 16 (D.it .u8 0)).map AV.d).take i ++ (bytesD x.n).flatten.map AV.d ++ ((c16 x ++ List.replicate 16 (D.it .u8 0)).map AV.d).drop j := by
 subst hi hj; exact entS_cells hu hp ht hn
def entR (x : Ent) : AV := if RE x then .tup [.dg 32 (encS (entS x)), .d (.bl true)] else .tup [.dg 32 (encS zeroS), .d (.bl false)]
set_option maxHeartbeats 4000000 in
theorem ent_ok (x : Ent) : FnC Tryz.prog 94 [.dg 4 (encE x)] (entR x) := by
 have hr := re_ok x
 unfold entR
 by_cases h : RE x
 ·have hl := entS_len x h
  rw [if_pos h]
  rw [decide_eq_true h] at hr
  cases hu : x.u with
  | true =>
   obtain ⟨hp, ht, hn⟩ : (0 ≤ x.p ∧ x.p < 16) ∧ (0 ≤ x.t ∧ x.t < 16) ∧ x.n.length ≤ 8 := by
    unfold RE at h
    rcases h with h | ⟨_, h1, h2, h3, h4, hn⟩
    ·rw [hu] at h; cases h.1
    ·unfold nameB at hn
     simp only [Bool.and_eq_true, decide_eq_true_eq] at hn; omega
   refine FnC.intro ti_ok Tryz.func94 rfl Tryz.ntmps94 Tryz.call94 rfl (Nat.le_of_ble_eq_true rfl) rfl ?_
   (repeat' ((conv=>whnf);first|with_reducible refine gA ?_|((with_reducible refine callE_id ?_); (refine CallE.con ⟨_, hr, ?_⟩)) | ((with_reducible refine letC_id ?_); first | refine LetC.mk ((c16 x ++ List.replicate 16 (D.it .u8 0)).map AV.d) rfl ?_ | refine LetC.mk ((encS (entS x)).map AV.d) (entS_cells2 rfl (by show 0 + 16 * 1 + (bytesD x.n).length * 1 = _; rw [bytesD_l]) hu (by omega) (by omega) (by omega)) ?_ | refine LetC.mk ((encS (entS x)).map AV.d) (st_all _) ?_ | refine LetC.now ?_) | refine AtA.eq (ld_sec rfl rfl hl) ?_ | with_reducible refine AtA.mk' ?_|(with_reducible first|refine gB ?_|refine gZ (fun x hx hu=>?_)|refine gY (fun x hx=>?_)|refine gE ?_|refine Both.mk ?_ ?_|refine gS (fun h=>?_) (fun h=>?_)|refine Spl.nt ?_|refine Spl.mk (fun h=>?_) (fun h=>?_))))
   conv => whnf
   conv in (ldA _ _ _) => tactic => exact ld_sec rfl rfl hl
   rfl
  | false =>
   have he : entS x = zeroS := by unfold entS; rw [hu]; rfl
   rw [he]
   refine FnC.intro ti_ok Tryz.func94 rfl Tryz.ntmps94 Tryz.call94 rfl (Nat.le_of_ble_eq_true rfl) rfl ?_
   (repeat' ((conv=>whnf);first|with_reducible refine gA ?_|((with_reducible refine callE_id ?_); (refine CallE.con ⟨_, hr, ?_⟩)) | with_reducible refine AtA.mk' ?_|(with_reducible first|refine gB ?_|refine gZ (fun x hx hu=>?_)|refine gY (fun x hx=>?_)|refine gE ?_|refine Both.mk ?_ ?_|refine gS (fun h=>?_) (fun h=>?_)|refine Spl.nt ?_|refine Spl.mk (fun h=>?_) (fun h=>?_))))
   all_goals rfl
 ·rw [if_neg h]
  rw [decide_eq_false h] at hr
  refine FnC.intro ti_ok Tryz.func94 rfl Tryz.ntmps94 Tryz.call94 rfl (Nat.le_of_ble_eq_true rfl) rfl ?_
  (repeat' ((conv=>whnf);first|with_reducible refine gA ?_|((with_reducible refine callE_id ?_); (refine CallE.con ⟨_, hr, ?_⟩)) | with_reducible refine AtA.mk' ?_|(with_reducible first|refine gB ?_|refine gZ (fun x hx hu=>?_)|refine gY (fun x hx=>?_)|refine gE ?_|refine Both.mk ?_ ?_|refine gS (fun h=>?_) (fun h=>?_)|refine Spl.nt ?_|refine Spl.mk (fun h=>?_) (fun h=>?_))))
  all_goals rfl
end Go.Proofs.YtmfokpfddponjaaGreatDoor
namespace Go.Proofs.YtmfokpfddponjaaGreatDoor
open Go.Sy
end Go.Proofs.YtmfokpfddponjaaGreatDoor
namespace Go.Proofs.YtmfokpfddponjaaGreatDoor
open Go.Sy
theorem bytes_flat' : ∀ (n : List UInt8), (bytesD n).flatten = encS n
 | [] => rfl
 | b :: n => by show [D.it .u8 b.toNat] ++ (bytesD n).flatten = D.it .u8 b.toNat :: encS n; rw [bytes_flat' n]; rfl
set_option maxHeartbeats 4000000 in
theorem cut_ok (s : List UInt8) (hs : s.length = 32) (n : Nat) (hn : n < 256) : FnC Tryz.prog 93 [.dg 32 (encS s), .d (.it .i64 16), .d (.it .i64 (n : Nat))] (.d (.fs 1 (bytesD (if n ≤ 16 then (s.drop 16).take n else [])))) := by
 have hf := fits_ok 16 (n : Nat)
 by_cases h : n ≤ 16
 ·rw [if_pos h]
  rw [decide_eq_true (by omega)] at hf
  refine FnC.intro ti_ok Tryz.func93 rfl Tryz.ntmps93 Tryz.call93 rfl (Nat.le_of_ble_eq_true rfl) rfl ?_
  (repeat' ((conv=>whnf);first|with_reducible refine gA ?_|((with_reducible refine callE_id ?_); first | refine CallE.con ⟨_, hf, ?_⟩ | refine CallE.inl ?_) | with_reducible refine CallI.inl ti_ok i34 rfl ?_|(with_reducible first|refine gB ?_|refine gZ (fun x hx hu=>?_)|refine gY (fun x hx=>?_)|refine gE ?_|refine Both.mk ?_ ?_|refine gS (fun h=>?_) (fun h=>?_)|refine Spl.nt ?_|refine Spl.mk (fun h=>?_) (fun h=>?_))))
  have hlen : ((16 + (n : Int)).toNat - Int.toNat 16) = n := by omega
  have hL : ((s.drop 16).take n).length = n := by rw [List.length_take, List.length_drop, hs]; omega
  refine ⟨bytesD ((s.drop 16).take n), ⟨?_, ?_, ?_, ?_, ?_⟩, ?_⟩
  ·show 0 + Int.toNat 16 * 1 + ((16 + (n:Int)).toNat - Int.toNat 16) * 1 ≤ 32
   omega
  ·show (bytesD ((s.drop 16).take n)).length = ((16 + (n:Int)).toNat - Int.toNat 16)
   rw [hlen]; unfold bytesD; rw [List.length_map, hL]
  ·intro x hx
   show x.length = 1
   obtain ⟨b, _, rfl⟩ := List.mem_map.1 hx
   rfl
  ·show (((encS s).map AV.d).drop (0 + Int.toNat 16 * 1)).take (((16 + (n:Int)).toNat - Int.toNat 16) * 1) = _
   rw [hlen, bytes_flat', Nat.mul_one]
   unfold encS
   rw [List.map_take, List.map_drop, List.map_take, List.map_drop]; rfl
  ·show 0 + ((16 + (n:Int)).toNat - Int.toNat 16) ≤ 1073741824
   omega
  (repeat' ((conv=>whnf);first|with_reducible refine gA ?_|(with_reducible first|refine gB ?_|refine gZ (fun x hx hu=>?_)|refine gY (fun x hx=>?_)|refine gE ?_|refine Both.mk ?_ ?_|refine gS (fun h=>?_) (fun h=>?_)|refine Spl.nt ?_|refine Spl.mk (fun h=>?_) (fun h=>?_))))
  all_goals rfl
 ·rw [if_neg h]
  rw [decide_eq_false (by omega)] at hf
  refine FnC.intro ti_ok Tryz.func93 rfl Tryz.ntmps93 Tryz.call93 rfl (Nat.le_of_ble_eq_true rfl) rfl ?_
  (repeat' ((conv=>whnf);first|with_reducible refine gA ?_|((with_reducible refine callE_id ?_); refine CallE.con ⟨_, hf, ?_⟩)|(with_reducible first|refine gB ?_|refine gZ (fun x hx hu=>?_)|refine gY (fun x hx=>?_)|refine gE ?_|refine Both.mk ?_ ?_|refine gS (fun h=>?_) (fun h=>?_)|refine Spl.nt ?_|refine Spl.mk (fun h=>?_) (fun h=>?_))))
  all_goals (show AV.d (.fs 1 []) = _; rfl)
end Go.Proofs.YtmfokpfddponjaaGreatDoor
