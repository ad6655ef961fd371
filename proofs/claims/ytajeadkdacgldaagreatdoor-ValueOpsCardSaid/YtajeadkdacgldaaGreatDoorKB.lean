/- Contracts of the functions that the law reaches, and the law. Conditions: none. -/
import Derived.Test.YtajeadkdacgldaaGreatDoorProg
import Derived.Test.YtajeadkdacgldaaGreatDoorSC
import Derived.KernelRfl
import Derived.Laws.Externs
import Derived.Shelf.Slices.CompactI
import Derived.Shelf.Slices.In.SortNone
import Derived.Shelf.Small.Strs
import Derived.Shelf.Sort.Plain
import Derived.Shelf.Strings.Count
import Derived.Shelf.Strings.OnBuilder
import Derived.Shelf.Strings.Search2
import Derived.Shelf.Strings.Search3
import Derived.Shelf.LaysM
import Derived.Shelf.Strings.Builder1
import Derived.Shelf.Strings.Builder2
import Derived.Shelf.Small.Utf8
import Derived.Shelf.Small.Wraps
import Derived.Shelf.Strings.Search1
import Derived.Ground.Names2Prog
set_option linter.all false
/- The types of the seat, as the Sym layer reads them. Conditions: none. -/
namespace Go.Proofs.YtajeadkdacgldaaGreatDoor
open Go.Sy
set_option maxRecDepth 100000
def tyL : List (Nat × Ty) := [
  (0, { kd := .other, size := 1, bytes := 0, zero := [], cmp := .none, pl := [] }),
  (1, { kd := .func, size := 1, bytes := 8, zero := [.ot .nilFunc], cmp := .none, pl := [] }),
  (2, { kd := .int .i64, size := 1, bytes := 8, zero := [.it .i64 0], cmp := .some [.it .i64 0], pl := [] }),
  (3, { kd := .int .i64, size := 1, bytes := 8, zero := [.it .i64 0], cmp := .some [.it .i64 0], pl := [] }),
  (4, { kd := .bool, size := 1, bytes := 1, zero := [.bl Bool.false], cmp := .some [.bl Bool.false], pl := [] }),
  (5, { kd := .int .u8, size := 1, bytes := 1, zero := [.it .u8 0], cmp := .some [.it .u8 0], pl := [] }),
  (6, { kd := .int .u8, size := 1, bytes := 1, zero := [.it .u8 0], cmp := .some [.it .u8 0], pl := [] }),
  (7, { kd := .struct [(0, 2), (1, 3), (2, 4), (3, 6)], size := 4, bytes := 24, zero := [.it .i64 0, .it .i64 0, .bl Bool.false, .it .u8 0], cmp := .some [.it .i64 0, .it .i64 0, .bl Bool.false, .it .u8 0], pl := [(0, 1), (1, 1), (2, 1), (3, 1)] }),
  (8, { kd := .struct [(0, 2), (1, 3), (2, 4), (3, 6)], size := 4, bytes := 24, zero := [.it .i64 0, .it .i64 0, .bl Bool.false, .it .u8 0], cmp := .some [.it .i64 0, .it .i64 0, .bl Bool.false, .it .u8 0], pl := [(0, 1), (1, 1), (2, 1), (3, 1)] }),
  (9, { kd := .string, size := 1, bytes := 16, zero := [.st []], cmp := .some [.st []], pl := [] }),
  (10, { kd := .string, size := 1, bytes := 16, zero := [.st []], cmp := .some [.st []], pl := [] }),
  (11, { kd := .string, size := 1, bytes := 16, zero := [.st []], cmp := .some [.st []], pl := [] }),
  (12, { kd := .int .u64, size := 1, bytes := 8, zero := [.it .u64 0], cmp := .some [.it .u64 0], pl := [] }),
  (13, { kd := .struct [(0, 9), (1, 12)], size := 2, bytes := 24, zero := [.st [], .it .u64 0], cmp := .none, pl := [(0, 1), (1, 1)] }),
  (14, { kd := .struct [(0, 9), (1, 12)], size := 2, bytes := 24, zero := [.st [], .it .u64 0], cmp := .none, pl := [(0, 1), (1, 1)] }),
  (15, { kd := .ptr 275, size := 1, bytes := 8, zero := [.ot (.pointer .none)], cmp := .none, pl := [] }),
  (16, { kd := .ptr 278, size := 1, bytes := 8, zero := [.ot (.pointer .none)], cmp := .none, pl := [] }),
  (17, { kd := .ptr 286, size := 1, bytes := 8, zero := [.ot (.pointer .none)], cmp := .none, pl := [] }),
  (18, { kd := .struct [(0, 17)], size := 1, bytes := 8, zero := [.ot (.pointer .none)], cmp := .none, pl := [(0, 1)] }),
  (19, { kd := .struct [(0, 17)], size := 1, bytes := 8, zero := [.ot (.pointer .none)], cmp := .none, pl := [(0, 1)] }),
  (20, { kd := .other, size := 1, bytes := 16, zero := [.ot .nilIface], cmp := .none, pl := [] }),
  (21, { kd := .int .i32, size := 1, bytes := 4, zero := [.it .i32 0], cmp := .some [.it .i32 0], pl := [] }),
  (22, { kd := .struct [(0, 3), (1, 2), (2, 9)], size := 3, bytes := 32, zero := [.it .i64 0, .it .i64 0, .st []], cmp := .some [.it .i64 0, .it .i64 0, .st []], pl := [(0, 1), (1, 1), (2, 1)] }),
  (23, { kd := .struct [(0, 3), (1, 2), (2, 9)], size := 3, bytes := 32, zero := [.it .i64 0, .it .i64 0, .st []], cmp := .some [.it .i64 0, .it .i64 0, .st []], pl := [(0, 1), (1, 1), (2, 1)] }),
  (24, { kd := .slice 50, size := 1, bytes := 24, zero := [.fs 4 []], cmp := .none, pl := [] }),
  (25, { kd := .func, size := 1, bytes := 8, zero := [.ot .nilFunc], cmp := .none, pl := [] }),
  (26, { kd := .slice 28, size := 1, bytes := 24, zero := [.fs 4 []], cmp := .none, pl := [] }),
  (27, { kd := .struct [(0, 3), (1, 2), (2, 9), (3, 26)], size := 4, bytes := 56, zero := [.it .i64 0, .it .i64 0, .st [], .fs 4 []], cmp := .none, pl := [(0, 1), (1, 1), (2, 1), (3, 1)] }),
  (28, { kd := .struct [(0, 3), (1, 2), (2, 9), (3, 26)], size := 4, bytes := 56, zero := [.it .i64 0, .it .i64 0, .st [], .fs 4 []], cmp := .none, pl := [(0, 1), (1, 1), (2, 1), (3, 1)] }),
  (29, { kd := .func, size := 1, bytes := 8, zero := [.ot .nilFunc], cmp := .none, pl := [] }),
  (30, { kd := .struct [(0, 3), (1, 2), (2, 9)], size := 3, bytes := 32, zero := [.it .i64 0, .it .i64 0, .st []], cmp := .some [.it .i64 0, .it .i64 0, .st []], pl := [(0, 1), (1, 1), (2, 1)] }),
  (31, { kd := .int .i64, size := 1, bytes := 8, zero := [.it .i64 0], cmp := .some [.it .i64 0], pl := [] }),
  (32, { kd := .other, size := 1, bytes := 0, zero := [], cmp := .none, pl := [] }),
  (33, { kd := .func, size := 1, bytes := 8, zero := [.ot .nilFunc], cmp := .none, pl := [] }),
  (34, { kd := .other, size := 1, bytes := 0, zero := [], cmp := .none, pl := [] }),
  (35, { kd := .func, size := 1, bytes := 8, zero := [.ot .nilFunc], cmp := .none, pl := [] }),
  (36, { kd := .func, size := 1, bytes := 8, zero := [.ot .nilFunc], cmp := .none, pl := [] }),
  (37, { kd := .func, size := 1, bytes := 8, zero := [.ot .nilFunc], cmp := .none, pl := [] }),
  (38, { kd := .func, size := 1, bytes := 8, zero := [.ot .nilFunc], cmp := .none, pl := [] }),
  (39, { kd := .func, size := 1, bytes := 8, zero := [.ot .nilFunc], cmp := .none, pl := [] }),
  (40, { kd := .func, size := 1, bytes := 8, zero := [.ot .nilFunc], cmp := .none, pl := [] }),
  (41, { kd := .func, size := 1, bytes := 8, zero := [.ot .nilFunc], cmp := .none, pl := [] }),
  (42, { kd := .func, size := 1, bytes := 8, zero := [.ot .nilFunc], cmp := .none, pl := [] }),
  (43, { kd := .slice 48, size := 1, bytes := 24, zero := [.fs 4 []], cmp := .none, pl := [] }),
  (44, { kd := .func, size := 1, bytes := 8, zero := [.ot .nilFunc], cmp := .none, pl := [] }),
  (45, { kd := .func, size := 1, bytes := 8, zero := [.ot .nilFunc], cmp := .none, pl := [] }),
  (46, { kd := .func, size := 1, bytes := 8, zero := [.ot .nilFunc], cmp := .none, pl := [] }),
  (47, { kd := .struct [(0, 9), (1, 30)], size := 4, bytes := 48, zero := [.st [], .it .i64 0, .it .i64 0, .st []], cmp := .some [.st [], .it .i64 0, .it .i64 0, .st []], pl := [(0, 1), (1, 3)] }),
  (48, { kd := .struct [(0, 9), (1, 30)], size := 4, bytes := 48, zero := [.st [], .it .i64 0, .it .i64 0, .st []], cmp := .some [.st [], .it .i64 0, .it .i64 0, .st []], pl := [(0, 1), (1, 3)] }),
  (49, { kd := .struct [(0, 9), (1, 23)], size := 4, bytes := 48, zero := [.st [], .it .i64 0, .it .i64 0, .st []], cmp := .some [.st [], .it .i64 0, .it .i64 0, .st []], pl := [(0, 1), (1, 3)] }),
  (50, { kd := .struct [(0, 9), (1, 23)], size := 4, bytes := 48, zero := [.st [], .it .i64 0, .it .i64 0, .st []], cmp := .some [.st [], .it .i64 0, .it .i64 0, .st []], pl := [(0, 1), (1, 3)] }),
  (51, { kd := .func, size := 1, bytes := 8, zero := [.ot .nilFunc], cmp := .none, pl := [] }),
  (52, { kd := .func, size := 1, bytes := 8, zero := [.ot .nilFunc], cmp := .none, pl := [] }),
  (53, { kd := .struct [(0, 9), (1, 28)], size := 5, bytes := 72, zero := [.st [], .it .i64 0, .it .i64 0, .st [], .fs 4 []], cmp := .none, pl := [(0, 1), (1, 4)] }),
  (54, { kd := .struct [(0, 9), (1, 28)], size := 5, bytes := 72, zero := [.st [], .it .i64 0, .it .i64 0, .st [], .fs 4 []], cmp := .none, pl := [(0, 1), (1, 4)] }),
  (55, { kd := .slice 54, size := 1, bytes := 24, zero := [.fs 5 []], cmp := .none, pl := [] }),
  (56, { kd := .slice 73, size := 1, bytes := 24, zero := [.fs 2 []], cmp := .none, pl := [] }),
  (57, { kd := .slice 90, size := 1, bytes := 24, zero := [.fs 7 []], cmp := .none, pl := [] }),
  (58, { kd := .struct [(0, 56), (1, 57), (2, 57), (3, 55)], size := 4, bytes := 96, zero := [.fs 2 [], .fs 7 [], .fs 7 [], .fs 5 []], cmp := .none, pl := [(0, 1), (1, 1), (2, 1), (3, 1)] }),
  (59, { kd := .struct [(0, 56), (1, 57), (2, 57), (3, 55)], size := 4, bytes := 96, zero := [.fs 2 [], .fs 7 [], .fs 7 [], .fs 5 []], cmp := .none, pl := [(0, 1), (1, 1), (2, 1), (3, 1)] }),
  (60, { kd := .ptr 102, size := 1, bytes := 8, zero := [.ot (.pointer .none)], cmp := .none, pl := [] }),
  (61, { kd := .func, size := 1, bytes := 8, zero := [.ot .nilFunc], cmp := .none, pl := [] }),
  (62, { kd := .slice 81, size := 1, bytes := 24, zero := [.fs 32 []], cmp := .none, pl := [] }),
  (63, { kd := .func, size := 1, bytes := 8, zero := [.ot .nilFunc], cmp := .none, pl := [] }),
  (64, { kd := .func, size := 1, bytes := 8, zero := [.ot .nilFunc], cmp := .none, pl := [] }),
  (65, { kd := .func, size := 1, bytes := 8, zero := [.ot .nilFunc], cmp := .none, pl := [] }),
  (66, { kd := .func, size := 1, bytes := 8, zero := [.ot .nilFunc], cmp := .none, pl := [] }),
  (67, { kd := .func, size := 1, bytes := 8, zero := [.ot .nilFunc], cmp := .none, pl := [] }),
  (68, { kd := .func, size := 1, bytes := 8, zero := [.ot .nilFunc], cmp := .none, pl := [] }),
  (69, { kd := .func, size := 1, bytes := 8, zero := [.ot .nilFunc], cmp := .none, pl := [] }),
  (70, { kd := .func, size := 1, bytes := 8, zero := [.ot .nilFunc], cmp := .none, pl := [] }),
  (71, { kd := .func, size := 1, bytes := 8, zero := [.ot .nilFunc], cmp := .none, pl := [] }),
  (72, { kd := .struct [(0, 9), (1, 57)], size := 2, bytes := 40, zero := [.st [], .fs 7 []], cmp := .none, pl := [(0, 1), (1, 1)] }),
  (73, { kd := .struct [(0, 9), (1, 57)], size := 2, bytes := 40, zero := [.st [], .fs 7 []], cmp := .none, pl := [(0, 1), (1, 1)] }),
  (74, { kd := .func, size := 1, bytes := 8, zero := [.ot .nilFunc], cmp := .none, pl := [] }),
  (75, { kd := .ptr 99, size := 1, bytes := 8, zero := [.ot (.pointer .none)], cmp := .none, pl := [] }),
  (76, { kd := .other, size := 1, bytes := 0, zero := [], cmp := .none, pl := [] }),
  (77, { kd := .func, size := 1, bytes := 8, zero := [.ot .nilFunc], cmp := .none, pl := [] }),
  (78, { kd := .other, size := 1, bytes := 0, zero := [], cmp := .none, pl := [] }),
  (79, { kd := .func, size := 1, bytes := 8, zero := [.ot .nilFunc], cmp := .none, pl := [] }),
  (80, { kd := .arr 32 5, size := 32, bytes := 32, zero := [.it .u8 0, .it .u8 0, .it .u8 0, .it .u8 0, .it .u8 0, .it .u8 0, .it .u8 0, .it .u8 0, .it .u8 0, .it .u8 0, .it .u8 0, .it .u8 0, .it .u8 0, .it .u8 0, .it .u8 0, .it .u8 0, .it .u8 0, .it .u8 0, .it .u8 0, .it .u8 0, .it .u8 0, .it .u8 0, .it .u8 0, .it .u8 0, .it .u8 0, .it .u8 0, .it .u8 0, .it .u8 0, .it .u8 0, .it .u8 0, .it .u8 0, .it .u8 0], cmp := .some [.it .u8 0, .it .u8 0, .it .u8 0, .it .u8 0, .it .u8 0, .it .u8 0, .it .u8 0, .it .u8 0, .it .u8 0, .it .u8 0, .it .u8 0, .it .u8 0, .it .u8 0, .it .u8 0, .it .u8 0, .it .u8 0, .it .u8 0, .it .u8 0, .it .u8 0, .it .u8 0, .it .u8 0, .it .u8 0, .it .u8 0, .it .u8 0, .it .u8 0, .it .u8 0, .it .u8 0, .it .u8 0, .it .u8 0, .it .u8 0, .it .u8 0, .it .u8 0], pl := [] }),
  (81, { kd := .arr 32 5, size := 32, bytes := 32, zero := [.it .u8 0, .it .u8 0, .it .u8 0, .it .u8 0, .it .u8 0, .it .u8 0, .it .u8 0, .it .u8 0, .it .u8 0, .it .u8 0, .it .u8 0, .it .u8 0, .it .u8 0, .it .u8 0, .it .u8 0, .it .u8 0, .it .u8 0, .it .u8 0, .it .u8 0, .it .u8 0, .it .u8 0, .it .u8 0, .it .u8 0, .it .u8 0, .it .u8 0, .it .u8 0, .it .u8 0, .it .u8 0, .it .u8 0, .it .u8 0, .it .u8 0, .it .u8 0], cmp := .some [.it .u8 0, .it .u8 0, .it .u8 0, .it .u8 0, .it .u8 0, .it .u8 0, .it .u8 0, .it .u8 0, .it .u8 0, .it .u8 0, .it .u8 0, .it .u8 0, .it .u8 0, .it .u8 0, .it .u8 0, .it .u8 0, .it .u8 0, .it .u8 0, .it .u8 0, .it .u8 0, .it .u8 0, .it .u8 0, .it .u8 0, .it .u8 0, .it .u8 0, .it .u8 0, .it .u8 0, .it .u8 0, .it .u8 0, .it .u8 0, .it .u8 0, .it .u8 0], pl := [] }),
  (82, { kd := .func, size := 1, bytes := 8, zero := [.ot .nilFunc], cmp := .none, pl := [] }),
  (83, { kd := .func, size := 1, bytes := 8, zero := [.ot .nilFunc], cmp := .none, pl := [] }),
  (84, { kd := .slice 3, size := 1, bytes := 24, zero := [.fs 1 []], cmp := .none, pl := [] }),
  (85, { kd := .func, size := 1, bytes := 8, zero := [.ot .nilFunc], cmp := .none, pl := [] }),
  (86, { kd := .func, size := 1, bytes := 8, zero := [.ot .nilFunc], cmp := .none, pl := [] }),
  (87, { kd := .func, size := 1, bytes := 8, zero := [.ot .nilFunc], cmp := .none, pl := [] }),
  (88, { kd := .func, size := 1, bytes := 8, zero := [.ot .nilFunc], cmp := .none, pl := [] }),
  (89, { kd := .struct [(0, 3), (1, 9), (2, 2), (3, 26), (4, 57), (5, 57), (6, 4)], size := 7, bytes := 112, zero := [.it .i64 0, .st [], .it .i64 0, .fs 4 [], .fs 7 [], .fs 7 [], .bl Bool.false], cmp := .none, pl := [(0, 1), (1, 1), (2, 1), (3, 1), (4, 1), (5, 1), (6, 1)] }),
  (90, { kd := .struct [(0, 3), (1, 9), (2, 2), (3, 26), (4, 57), (5, 57), (6, 4)], size := 7, bytes := 112, zero := [.it .i64 0, .st [], .it .i64 0, .fs 4 [], .fs 7 [], .fs 7 [], .bl Bool.false], cmp := .none, pl := [(0, 1), (1, 1), (2, 1), (3, 1), (4, 1), (5, 1), (6, 1)] }),
  (91, { kd := .func, size := 1, bytes := 8, zero := [.ot .nilFunc], cmp := .none, pl := [] }),
  (92, { kd := .func, size := 1, bytes := 8, zero := [.ot .nilFunc], cmp := .none, pl := [] }),
  (93, { kd := .map 3 3, size := 1, bytes := 8, zero := [.ot (.map .none)], cmp := .none, pl := [] }),
  (94, { kd := .struct [(0, 93), (1, 3)], size := 2, bytes := 16, zero := [.ot (.map .none), .it .i64 0], cmp := .none, pl := [(0, 1), (1, 1)] }),
  (95, { kd := .struct [(0, 93), (1, 3)], size := 2, bytes := 16, zero := [.ot (.map .none), .it .i64 0], cmp := .none, pl := [(0, 1), (1, 1)] }),
  (96, { kd := .slice 153, size := 1, bytes := 24, zero := [.fs 36 []], cmp := .none, pl := [] }),
  (97, { kd := .slice 289, size := 1, bytes := 24, zero := [.fs 38 []], cmp := .none, pl := [] }),
  (98, { kd := .struct [(0, 95), (2, 62), (3, 96), (4, 97), (5, 3)], size := 6, bytes := 96, zero := [.ot (.map .none), .it .i64 0, .fs 32 [], .fs 36 [], .fs 38 [], .it .i64 0], cmp := .none, pl := [(0, 2), (2, 1), (3, 1), (4, 1), (5, 1)] }),
  (99, { kd := .struct [(0, 95), (2, 62), (3, 96), (4, 97), (5, 3)], size := 6, bytes := 96, zero := [.ot (.map .none), .it .i64 0, .fs 32 [], .fs 36 [], .fs 38 [], .it .i64 0], cmp := .none, pl := [(0, 2), (2, 1), (3, 1), (4, 1), (5, 1)] }),
  (100, { kd := .func, size := 1, bytes := 8, zero := [.ot .nilFunc], cmp := .none, pl := [] }),
  (101, { kd := .struct [(0, 75)], size := 1, bytes := 8, zero := [.ot (.pointer .none)], cmp := .none, pl := [(0, 1)] }),
  (102, { kd := .struct [(0, 75)], size := 1, bytes := 8, zero := [.ot (.pointer .none)], cmp := .none, pl := [(0, 1)] }),
  (103, { kd := .func, size := 1, bytes := 8, zero := [.ot .nilFunc], cmp := .none, pl := [] }),
  (104, { kd := .func, size := 1, bytes := 8, zero := [.ot .nilFunc], cmp := .none, pl := [] }),
  (105, { kd := .func, size := 1, bytes := 8, zero := [.ot .nilFunc], cmp := .none, pl := [] }),
  (106, { kd := .func, size := 1, bytes := 8, zero := [.ot .nilFunc], cmp := .none, pl := [] }),
  (107, { kd := .func, size := 1, bytes := 8, zero := [.ot .nilFunc], cmp := .none, pl := [] }),
  (108, { kd := .func, size := 1, bytes := 8, zero := [.ot .nilFunc], cmp := .none, pl := [] }),
  (109, { kd := .func, size := 1, bytes := 8, zero := [.ot .nilFunc], cmp := .none, pl := [] }),
  (110, { kd := .func, size := 1, bytes := 8, zero := [.ot .nilFunc], cmp := .none, pl := [] }),
  (111, { kd := .func, size := 1, bytes := 8, zero := [.ot .nilFunc], cmp := .none, pl := [] }),
  (112, { kd := .func, size := 1, bytes := 8, zero := [.ot .nilFunc], cmp := .none, pl := [] }),
  (113, { kd := .slice 57, size := 1, bytes := 24, zero := [.fs 1 []], cmp := .none, pl := [] }),
  (114, { kd := .func, size := 1, bytes := 8, zero := [.ot .nilFunc], cmp := .none, pl := [] }),
  (115, { kd := .other, size := 1, bytes := 0, zero := [], cmp := .none, pl := [] }),
  (116, { kd := .func, size := 1, bytes := 8, zero := [.ot .nilFunc], cmp := .none, pl := [] }),
  (117, { kd := .func, size := 1, bytes := 8, zero := [.ot .nilFunc], cmp := .none, pl := [] }),
  (118, { kd := .func, size := 1, bytes := 8, zero := [.ot .nilFunc], cmp := .none, pl := [] }),
  (119, { kd := .func, size := 1, bytes := 8, zero := [.ot .nilFunc], cmp := .none, pl := [] }),
  (120, { kd := .func, size := 1, bytes := 8, zero := [.ot .nilFunc], cmp := .none, pl := [] }),
  (121, { kd := .func, size := 1, bytes := 8, zero := [.ot .nilFunc], cmp := .none, pl := [] }),
  (122, { kd := .other, size := 1, bytes := 0, zero := [], cmp := .none, pl := [] }),
  (123, { kd := .func, size := 1, bytes := 8, zero := [.ot .nilFunc], cmp := .none, pl := [] }),
  (124, { kd := .func, size := 1, bytes := 8, zero := [.ot .nilFunc], cmp := .none, pl := [] }),
  (125, { kd := .func, size := 1, bytes := 8, zero := [.ot .nilFunc], cmp := .none, pl := [] }),
  (126, { kd := .func, size := 1, bytes := 8, zero := [.ot .nilFunc], cmp := .none, pl := [] }),
  (127, { kd := .func, size := 1, bytes := 8, zero := [.ot .nilFunc], cmp := .none, pl := [] }),
  (128, { kd := .func, size := 1, bytes := 8, zero := [.ot .nilFunc], cmp := .none, pl := [] }),
  (129, { kd := .func, size := 1, bytes := 8, zero := [.ot .nilFunc], cmp := .none, pl := [] }),
  (130, { kd := .func, size := 1, bytes := 8, zero := [.ot .nilFunc], cmp := .none, pl := [] }),
  (131, { kd := .func, size := 1, bytes := 8, zero := [.ot .nilFunc], cmp := .none, pl := [] }),
  (132, { kd := .int .u64, size := 1, bytes := 8, zero := [.it .u64 0], cmp := .some [.it .u64 0], pl := [] }),
  (133, { kd := .func, size := 1, bytes := 8, zero := [.ot .nilFunc], cmp := .none, pl := [] }),
  (134, { kd := .func, size := 1, bytes := 8, zero := [.ot .nilFunc], cmp := .none, pl := [] }),
  (135, { kd := .func, size := 1, bytes := 8, zero := [.ot .nilFunc], cmp := .none, pl := [] }),
  (136, { kd := .func, size := 1, bytes := 8, zero := [.ot .nilFunc], cmp := .none, pl := [] }),
  (137, { kd := .func, size := 1, bytes := 8, zero := [.ot .nilFunc], cmp := .none, pl := [] }),
  (138, { kd := .func, size := 1, bytes := 8, zero := [.ot .nilFunc], cmp := .none, pl := [] }),
  (139, { kd := .func, size := 1, bytes := 8, zero := [.ot .nilFunc], cmp := .none, pl := [] }),
  (140, { kd := .func, size := 1, bytes := 8, zero := [.ot .nilFunc], cmp := .none, pl := [] }),
  (141, { kd := .other, size := 1, bytes := 0, zero := [], cmp := .none, pl := [] }),
  (142, { kd := .func, size := 1, bytes := 8, zero := [.ot .nilFunc], cmp := .none, pl := [] }),
  (143, { kd := .slice 5, size := 1, bytes := 24, zero := [.fs 1 []], cmp := .none, pl := [] }),
  (144, { kd := .other, size := 1, bytes := 0, zero := [], cmp := .none, pl := [] }),
  (145, { kd := .func, size := 1, bytes := 8, zero := [.ot .nilFunc], cmp := .none, pl := [] }),
  (146, { kd := .func, size := 1, bytes := 8, zero := [.ot .nilFunc], cmp := .none, pl := [] }),
  (147, { kd := .func, size := 1, bytes := 8, zero := [.ot .nilFunc], cmp := .none, pl := [] }),
  (148, { kd := .func, size := 1, bytes := 8, zero := [.ot .nilFunc], cmp := .none, pl := [] }),
  (149, { kd := .func, size := 1, bytes := 8, zero := [.ot .nilFunc], cmp := .none, pl := [] }),
  (150, { kd := .struct [(0, 3), (1, 3)], size := 2, bytes := 16, zero := [.it .i64 0, .it .i64 0], cmp := .some [.it .i64 0, .it .i64 0], pl := [(0, 1), (1, 1)] }),
  (151, { kd := .struct [(0, 3), (1, 3)], size := 2, bytes := 16, zero := [.it .i64 0, .it .i64 0], cmp := .some [.it .i64 0, .it .i64 0], pl := [(0, 1), (1, 1)] }),
  (152, { kd := .struct [(0, 3), (1, 81), (33, 151), (35, 3)], size := 36, bytes := 64, zero := [.it .i64 0, .it .u8 0, .it .u8 0, .it .u8 0, .it .u8 0, .it .u8 0, .it .u8 0, .it .u8 0, .it .u8 0, .it .u8 0, .it .u8 0, .it .u8 0, .it .u8 0, .it .u8 0, .it .u8 0, .it .u8 0, .it .u8 0, .it .u8 0, .it .u8 0, .it .u8 0, .it .u8 0, .it .u8 0, .it .u8 0, .it .u8 0, .it .u8 0, .it .u8 0, .it .u8 0, .it .u8 0, .it .u8 0, .it .u8 0, .it .u8 0, .it .u8 0, .it .u8 0, .it .i64 0, .it .i64 0, .it .i64 0], cmp := .some [.it .i64 0, .it .u8 0, .it .u8 0, .it .u8 0, .it .u8 0, .it .u8 0, .it .u8 0, .it .u8 0, .it .u8 0, .it .u8 0, .it .u8 0, .it .u8 0, .it .u8 0, .it .u8 0, .it .u8 0, .it .u8 0, .it .u8 0, .it .u8 0, .it .u8 0, .it .u8 0, .it .u8 0, .it .u8 0, .it .u8 0, .it .u8 0, .it .u8 0, .it .u8 0, .it .u8 0, .it .u8 0, .it .u8 0, .it .u8 0, .it .u8 0, .it .u8 0, .it .u8 0, .it .i64 0, .it .i64 0, .it .i64 0], pl := [(0, 1), (1, 32), (33, 2), (35, 1)] }),
  (153, { kd := .struct [(0, 3), (1, 81), (33, 151), (35, 3)], size := 36, bytes := 64, zero := [.it .i64 0, .it .u8 0, .it .u8 0, .it .u8 0, .it .u8 0, .it .u8 0, .it .u8 0, .it .u8 0, .it .u8 0, .it .u8 0, .it .u8 0, .it .u8 0, .it .u8 0, .it .u8 0, .it .u8 0, .it .u8 0, .it .u8 0, .it .u8 0, .it .u8 0, .it .u8 0, .it .u8 0, .it .u8 0, .it .u8 0, .it .u8 0, .it .u8 0, .it .u8 0, .it .u8 0, .it .u8 0, .it .u8 0, .it .u8 0, .it .u8 0, .it .u8 0, .it .u8 0, .it .i64 0, .it .i64 0, .it .i64 0], cmp := .some [.it .i64 0, .it .u8 0, .it .u8 0, .it .u8 0, .it .u8 0, .it .u8 0, .it .u8 0, .it .u8 0, .it .u8 0, .it .u8 0, .it .u8 0, .it .u8 0, .it .u8 0, .it .u8 0, .it .u8 0, .it .u8 0, .it .u8 0, .it .u8 0, .it .u8 0, .it .u8 0, .it .u8 0, .it .u8 0, .it .u8 0, .it .u8 0, .it .u8 0, .it .u8 0, .it .u8 0, .it .u8 0, .it .u8 0, .it .u8 0, .it .u8 0, .it .u8 0, .it .u8 0, .it .i64 0, .it .i64 0, .it .i64 0], pl := [(0, 1), (1, 32), (33, 2), (35, 1)] }),
  (154, { kd := .arr 4 3, size := 4, bytes := 32, zero := [.it .i64 0, .it .i64 0, .it .i64 0, .it .i64 0], cmp := .some [.it .i64 0, .it .i64 0, .it .i64 0, .it .i64 0], pl := [] }),
  (155, { kd := .struct [(0, 3), (1, 3), (2, 154)], size := 6, bytes := 48, zero := [.it .i64 0, .it .i64 0, .it .i64 0, .it .i64 0, .it .i64 0, .it .i64 0], cmp := .some [.it .i64 0, .it .i64 0, .it .i64 0, .it .i64 0, .it .i64 0, .it .i64 0], pl := [(0, 1), (1, 1), (2, 4)] }),
  (156, { kd := .struct [(0, 3), (1, 3), (2, 154)], size := 6, bytes := 48, zero := [.it .i64 0, .it .i64 0, .it .i64 0, .it .i64 0, .it .i64 0, .it .i64 0], cmp := .some [.it .i64 0, .it .i64 0, .it .i64 0, .it .i64 0, .it .i64 0, .it .i64 0], pl := [(0, 1), (1, 1), (2, 4)] }),
  (157, { kd := .other, size := 1, bytes := 0, zero := [], cmp := .none, pl := [] }),
  (158, { kd := .func, size := 1, bytes := 8, zero := [.ot .nilFunc], cmp := .none, pl := [] }),
  (159, { kd := .func, size := 1, bytes := 8, zero := [.ot .nilFunc], cmp := .none, pl := [] }),
  (160, { kd := .func, size := 1, bytes := 8, zero := [.ot .nilFunc], cmp := .none, pl := [] }),
  (161, { kd := .func, size := 1, bytes := 8, zero := [.ot .nilFunc], cmp := .none, pl := [] }),
  (162, { kd := .func, size := 1, bytes := 8, zero := [.ot .nilFunc], cmp := .none, pl := [] }),
  (163, { kd := .func, size := 1, bytes := 8, zero := [.ot .nilFunc], cmp := .none, pl := [] }),
  (164, { kd := .func, size := 1, bytes := 8, zero := [.ot .nilFunc], cmp := .none, pl := [] }),
  (165, { kd := .func, size := 1, bytes := 8, zero := [.ot .nilFunc], cmp := .none, pl := [] }),
  (166, { kd := .func, size := 1, bytes := 8, zero := [.ot .nilFunc], cmp := .none, pl := [] }),
  (167, { kd := .other, size := 1, bytes := 0, zero := [], cmp := .none, pl := [] }),
  (168, { kd := .func, size := 1, bytes := 8, zero := [.ot .nilFunc], cmp := .none, pl := [] }),
  (169, { kd := .func, size := 1, bytes := 8, zero := [.ot .nilFunc], cmp := .none, pl := [] }),
  (170, { kd := .func, size := 1, bytes := 8, zero := [.ot .nilFunc], cmp := .none, pl := [] }),
  (171, { kd := .other, size := 1, bytes := 0, zero := [], cmp := .none, pl := [] }),
  (172, { kd := .func, size := 1, bytes := 8, zero := [.ot .nilFunc], cmp := .none, pl := [] }),
  (173, { kd := .func, size := 1, bytes := 8, zero := [.ot .nilFunc], cmp := .none, pl := [] }),
  (174, { kd := .func, size := 1, bytes := 8, zero := [.ot .nilFunc], cmp := .none, pl := [] }),
  (175, { kd := .other, size := 1, bytes := 0, zero := [], cmp := .none, pl := [] }),
  (176, { kd := .func, size := 1, bytes := 8, zero := [.ot .nilFunc], cmp := .none, pl := [] }),
  (177, { kd := .func, size := 1, bytes := 8, zero := [.ot .nilFunc], cmp := .none, pl := [] }),
  (178, { kd := .func, size := 1, bytes := 8, zero := [.ot .nilFunc], cmp := .none, pl := [] }),
  (179, { kd := .func, size := 1, bytes := 8, zero := [.ot .nilFunc], cmp := .none, pl := [] }),
  (180, { kd := .other, size := 1, bytes := 0, zero := [], cmp := .none, pl := [] }),
  (181, { kd := .func, size := 1, bytes := 8, zero := [.ot .nilFunc], cmp := .none, pl := [] }),
  (182, { kd := .slice 9, size := 1, bytes := 24, zero := [.fs 1 []], cmp := .none, pl := [] }),
  (183, { kd := .other, size := 1, bytes := 0, zero := [], cmp := .none, pl := [] }),
  (184, { kd := .func, size := 1, bytes := 8, zero := [.ot .nilFunc], cmp := .none, pl := [] }),
  (185, { kd := .func, size := 1, bytes := 8, zero := [.ot .nilFunc], cmp := .none, pl := [] }),
  (186, { kd := .func, size := 1, bytes := 8, zero := [.ot .nilFunc], cmp := .none, pl := [] }),
  (187, { kd := .int .i8, size := 1, bytes := 1, zero := [.it .i8 0], cmp := .some [.it .i8 0], pl := [] }),
  (188, { kd := .int .i8, size := 1, bytes := 1, zero := [.it .i8 0], cmp := .some [.it .i8 0], pl := [] }),
  (189, { kd := .struct [(0, 143), (1, 3), (2, 188)], size := 3, bytes := 40, zero := [.fs 1 [], .it .i64 0, .it .i8 0], cmp := .none, pl := [(0, 1), (1, 1), (2, 1)] }),
  (190, { kd := .struct [(0, 143), (1, 3), (2, 188)], size := 3, bytes := 40, zero := [.fs 1 [], .it .i64 0, .it .i8 0], cmp := .none, pl := [(0, 1), (1, 1), (2, 1)] }),
  (191, { kd := .other, size := 1, bytes := 16, zero := [.ot .nilIface], cmp := .none, pl := [] }),
  (192, { kd := .other, size := 1, bytes := 16, zero := [.ot .nilIface], cmp := .none, pl := [] }),
  (193, { kd := .other, size := 1, bytes := 0, zero := [], cmp := .none, pl := [] }),
  (194, { kd := .func, size := 1, bytes := 8, zero := [.ot .nilFunc], cmp := .none, pl := [] }),
  (195, { kd := .func, size := 1, bytes := 8, zero := [.ot .nilFunc], cmp := .none, pl := [] }),
  (196, { kd := .func, size := 1, bytes := 8, zero := [.ot .nilFunc], cmp := .none, pl := [] }),
  (197, { kd := .func, size := 1, bytes := 8, zero := [.ot .nilFunc], cmp := .none, pl := [] }),
  (198, { kd := .other, size := 1, bytes := 0, zero := [], cmp := .none, pl := [] }),
  (199, { kd := .func, size := 1, bytes := 8, zero := [.ot .nilFunc], cmp := .none, pl := [] }),
  (200, { kd := .func, size := 1, bytes := 8, zero := [.ot .nilFunc], cmp := .none, pl := [] }),
  (201, { kd := .func, size := 1, bytes := 8, zero := [.ot .nilFunc], cmp := .none, pl := [] }),
  (202, { kd := .func, size := 1, bytes := 8, zero := [.ot .nilFunc], cmp := .none, pl := [] }),
  (203, { kd := .struct [(0, 4), (1, 3), (2, 9), (3, 3)], size := 4, bytes := 40, zero := [.bl Bool.false, .it .i64 0, .st [], .it .i64 0], cmp := .some [.bl Bool.false, .it .i64 0, .st [], .it .i64 0], pl := [(0, 1), (1, 1), (2, 1), (3, 1)] }),
  (204, { kd := .struct [(0, 4), (1, 3), (2, 9), (3, 3)], size := 4, bytes := 40, zero := [.bl Bool.false, .it .i64 0, .st [], .it .i64 0], cmp := .some [.bl Bool.false, .it .i64 0, .st [], .it .i64 0], pl := [(0, 1), (1, 1), (2, 1), (3, 1)] }),
  (205, { kd := .func, size := 1, bytes := 8, zero := [.ot .nilFunc], cmp := .none, pl := [] }),
  (206, { kd := .func, size := 1, bytes := 8, zero := [.ot .nilFunc], cmp := .none, pl := [] }),
  (207, { kd := .ptr 190, size := 1, bytes := 8, zero := [.ot (.pointer .none)], cmp := .none, pl := [] }),
  (208, { kd := .func, size := 1, bytes := 8, zero := [.ot .nilFunc], cmp := .none, pl := [] }),
  (209, { kd := .func, size := 1, bytes := 8, zero := [.ot .nilFunc], cmp := .none, pl := [] }),
  (210, { kd := .func, size := 1, bytes := 8, zero := [.ot .nilFunc], cmp := .none, pl := [] }),
  (211, { kd := .func, size := 1, bytes := 8, zero := [.ot .nilFunc], cmp := .none, pl := [] }),
  (212, { kd := .func, size := 1, bytes := 8, zero := [.ot .nilFunc], cmp := .none, pl := [] }),
  (213, { kd := .func, size := 1, bytes := 8, zero := [.ot .nilFunc], cmp := .none, pl := [] }),
  (214, { kd := .func, size := 1, bytes := 8, zero := [.ot .nilFunc], cmp := .none, pl := [] }),
  (215, { kd := .func, size := 1, bytes := 8, zero := [.ot .nilFunc], cmp := .none, pl := [] }),
  (216, { kd := .func, size := 1, bytes := 8, zero := [.ot .nilFunc], cmp := .none, pl := [] }),
  (217, { kd := .func, size := 1, bytes := 8, zero := [.ot .nilFunc], cmp := .none, pl := [] }),
  (218, { kd := .func, size := 1, bytes := 8, zero := [.ot .nilFunc], cmp := .none, pl := [] }),
  (219, { kd := .other, size := 1, bytes := 0, zero := [], cmp := .none, pl := [] }),
  (220, { kd := .func, size := 1, bytes := 8, zero := [.ot .nilFunc], cmp := .none, pl := [] }),
  (221, { kd := .func, size := 1, bytes := 8, zero := [.ot .nilFunc], cmp := .none, pl := [] }),
  (222, { kd := .func, size := 1, bytes := 8, zero := [.ot .nilFunc], cmp := .none, pl := [] }),
  (223, { kd := .func, size := 1, bytes := 8, zero := [.ot .nilFunc], cmp := .none, pl := [] }),
  (224, { kd := .func, size := 1, bytes := 8, zero := [.ot .nilFunc], cmp := .none, pl := [] }),
  (225, { kd := .func, size := 1, bytes := 8, zero := [.ot .nilFunc], cmp := .none, pl := [] }),
  (226, { kd := .int .u32, size := 1, bytes := 4, zero := [.it .u32 0], cmp := .some [.it .u32 0], pl := [] }),
  (227, { kd := .other, size := 1, bytes := 0, zero := [], cmp := .none, pl := [] }),
  (228, { kd := .func, size := 1, bytes := 8, zero := [.ot .nilFunc], cmp := .none, pl := [] }),
  (229, { kd := .func, size := 1, bytes := 8, zero := [.ot .nilFunc], cmp := .none, pl := [] }),
  (230, { kd := .func, size := 1, bytes := 8, zero := [.ot .nilFunc], cmp := .none, pl := [] }),
  (231, { kd := .arr 256 4, size := 256, bytes := 256, zero := [.bl Bool.false, .bl Bool.false, .bl Bool.false, .bl Bool.false, .bl Bool.false, .bl Bool.false, .bl Bool.false, .bl Bool.false, .bl Bool.false, .bl Bool.false, .bl Bool.false, .bl Bool.false, .bl Bool.false, .bl Bool.false, .bl Bool.false, .bl Bool.false, .bl Bool.false, .bl Bool.false, .bl Bool.false, .bl Bool.false, .bl Bool.false, .bl Bool.false, .bl Bool.false, .bl Bool.false, .bl Bool.false, .bl Bool.false, .bl Bool.false, .bl Bool.false, .bl Bool.false, .bl Bool.false, .bl Bool.false, .bl Bool.false, .bl Bool.false, .bl Bool.false, .bl Bool.false, .bl Bool.false, .bl Bool.false, .bl Bool.false, .bl Bool.false, .bl Bool.false, .bl Bool.false, .bl Bool.false, .bl Bool.false, .bl Bool.false, .bl Bool.false, .bl Bool.false, .bl Bool.false, .bl Bool.false, .bl Bool.false, .bl Bool.false, .bl Bool.false, .bl Bool.false, .bl Bool.false, .bl Bool.false, .bl Bool.false, .bl Bool.false, .bl Bool.false, .bl Bool.false, .bl Bool.false, .bl Bool.false, .bl Bool.false, .bl Bool.false, .bl Bool.false, .bl Bool.false, .bl Bool.false, .bl Bool.false, .bl Bool.false, .bl Bool.false, .bl Bool.false, .bl Bool.false, .bl Bool.false, .bl Bool.false, .bl Bool.false, .bl Bool.false, .bl Bool.false, .bl Bool.false, .bl Bool.false, .bl Bool.false, .bl Bool.false, .bl Bool.false, .bl Bool.false, .bl Bool.false, .bl Bool.false, .bl Bool.false, .bl Bool.false, .bl Bool.false, .bl Bool.false, .bl Bool.false, .bl Bool.false, .bl Bool.false, .bl Bool.false, .bl Bool.false, .bl Bool.false, .bl Bool.false, .bl Bool.false, .bl Bool.false, .bl Bool.false, .bl Bool.false, .bl Bool.false, .bl Bool.false, .bl Bool.false, .bl Bool.false, .bl Bool.false, .bl Bool.false, .bl Bool.false, .bl Bool.false, .bl Bool.false, .bl Bool.false, .bl Bool.false, .bl Bool.false, .bl Bool.false, .bl Bool.false, .bl Bool.false, .bl Bool.false, .bl Bool.false, .bl Bool.false, .bl Bool.false, .bl Bool.false, .bl Bool.false, .bl Bool.false, .bl Bool.false, .bl Bool.false, .bl Bool.false, .bl Bool.false, .bl Bool.false, .bl Bool.false, .bl Bool.false, .bl Bool.false, .bl Bool.false, .bl Bool.false, .bl Bool.false, .bl Bool.false, .bl Bool.false, .bl Bool.false, .bl Bool.false, .bl Bool.false, .bl Bool.false, .bl Bool.false, .bl Bool.false, .bl Bool.false, .bl Bool.false, .bl Bool.false, .bl Bool.false, .bl Bool.false, .bl Bool.false, .bl Bool.false, .bl Bool.false, .bl Bool.false, .bl Bool.false, .bl Bool.false, .bl Bool.false, .bl Bool.false, .bl Bool.false, .bl Bool.false, .bl Bool.false, .bl Bool.false, .bl Bool.false, .bl Bool.false, .bl Bool.false, .bl Bool.false, .bl Bool.false, .bl Bool.false, .bl Bool.false, .bl Bool.false, .bl Bool.false, .bl Bool.false, .bl Bool.false, .bl Bool.false, .bl Bool.false, .bl Bool.false, .bl Bool.false, .bl Bool.false, .bl Bool.false, .bl Bool.false, .bl Bool.false, .bl Bool.false, .bl Bool.false, .bl Bool.false, .bl Bool.false, .bl Bool.false, .bl Bool.false, .bl Bool.false, .bl Bool.false, .bl Bool.false, .bl Bool.false, .bl Bool.false, .bl Bool.false, .bl Bool.false, .bl Bool.false, .bl Bool.false, .bl Bool.false, .bl Bool.false, .bl Bool.false, .bl Bool.false, .bl Bool.false, .bl Bool.false, .bl Bool.false, .bl Bool.false, .bl Bool.false, .bl Bool.false, .bl Bool.false, .bl Bool.false, .bl Bool.false, .bl Bool.false, .bl Bool.false, .bl Bool.false, .bl Bool.false, .bl Bool.false, .bl Bool.false, .bl Bool.false, .bl Bool.false, .bl Bool.false, .bl Bool.false, .bl Bool.false, .bl Bool.false, .bl Bool.false, .bl Bool.false, .bl Bool.false, .bl Bool.false, .bl Bool.false, .bl Bool.false, .bl Bool.false, .bl Bool.false, .bl Bool.false, .bl Bool.false, .bl Bool.false, .bl Bool.false, .bl Bool.false, .bl Bool.false, .bl Bool.false, .bl Bool.false, .bl Bool.false, .bl Bool.false, .bl Bool.false, .bl Bool.false, .bl Bool.false, .bl Bool.false, .bl Bool.false, .bl Bool.false, .bl Bool.false, .bl Bool.false, .bl Bool.false, .bl Bool.false, .bl Bool.false, .bl Bool.false, .bl Bool.false, .bl Bool.false, .bl Bool.false, .bl Bool.false, .bl Bool.false, .bl Bool.false, .bl Bool.false, .bl Bool.false, .bl Bool.false, .bl Bool.false, .bl Bool.false], cmp := .some [.bl Bool.false, .bl Bool.false, .bl Bool.false, .bl Bool.false, .bl Bool.false, .bl Bool.false, .bl Bool.false, .bl Bool.false, .bl Bool.false, .bl Bool.false, .bl Bool.false, .bl Bool.false, .bl Bool.false, .bl Bool.false, .bl Bool.false, .bl Bool.false, .bl Bool.false, .bl Bool.false, .bl Bool.false, .bl Bool.false, .bl Bool.false, .bl Bool.false, .bl Bool.false, .bl Bool.false, .bl Bool.false, .bl Bool.false, .bl Bool.false, .bl Bool.false, .bl Bool.false, .bl Bool.false, .bl Bool.false, .bl Bool.false, .bl Bool.false, .bl Bool.false, .bl Bool.false, .bl Bool.false, .bl Bool.false, .bl Bool.false, .bl Bool.false, .bl Bool.false, .bl Bool.false, .bl Bool.false, .bl Bool.false, .bl Bool.false, .bl Bool.false, .bl Bool.false, .bl Bool.false, .bl Bool.false, .bl Bool.false, .bl Bool.false, .bl Bool.false, .bl Bool.false, .bl Bool.false, .bl Bool.false, .bl Bool.false, .bl Bool.false, .bl Bool.false, .bl Bool.false, .bl Bool.false, .bl Bool.false, .bl Bool.false, .bl Bool.false, .bl Bool.false, .bl Bool.false, .bl Bool.false, .bl Bool.false, .bl Bool.false, .bl Bool.false, .bl Bool.false, .bl Bool.false, .bl Bool.false, .bl Bool.false, .bl Bool.false, .bl Bool.false, .bl Bool.false, .bl Bool.false, .bl Bool.false, .bl Bool.false, .bl Bool.false, .bl Bool.false, .bl Bool.false, .bl Bool.false, .bl Bool.false, .bl Bool.false, .bl Bool.false, .bl Bool.false, .bl Bool.false, .bl Bool.false, .bl Bool.false, .bl Bool.false, .bl Bool.false, .bl Bool.false, .bl Bool.false, .bl Bool.false, .bl Bool.false, .bl Bool.false, .bl Bool.false, .bl Bool.false, .bl Bool.false, .bl Bool.false, .bl Bool.false, .bl Bool.false, .bl Bool.false, .bl Bool.false, .bl Bool.false, .bl Bool.false, .bl Bool.false, .bl Bool.false, .bl Bool.false, .bl Bool.false, .bl Bool.false, .bl Bool.false, .bl Bool.false, .bl Bool.false, .bl Bool.false, .bl Bool.false, .bl Bool.false, .bl Bool.false, .bl Bool.false, .bl Bool.false, .bl Bool.false, .bl Bool.false, .bl Bool.false, .bl Bool.false, .bl Bool.false, .bl Bool.false, .bl Bool.false, .bl Bool.false, .bl Bool.false, .bl Bool.false, .bl Bool.false, .bl Bool.false, .bl Bool.false, .bl Bool.false, .bl Bool.false, .bl Bool.false, .bl Bool.false, .bl Bool.false, .bl Bool.false, .bl Bool.false, .bl Bool.false, .bl Bool.false, .bl Bool.false, .bl Bool.false, .bl Bool.false, .bl Bool.false, .bl Bool.false, .bl Bool.false, .bl Bool.false, .bl Bool.false, .bl Bool.false, .bl Bool.false, .bl Bool.false, .bl Bool.false, .bl Bool.false, .bl Bool.false, .bl Bool.false, .bl Bool.false, .bl Bool.false, .bl Bool.false, .bl Bool.false, .bl Bool.false, .bl Bool.false, .bl Bool.false, .bl Bool.false, .bl Bool.false, .bl Bool.false, .bl Bool.false, .bl Bool.false, .bl Bool.false, .bl Bool.false, .bl Bool.false, .bl Bool.false, .bl Bool.false, .bl Bool.false, .bl Bool.false, .bl Bool.false, .bl Bool.false, .bl Bool.false, .bl Bool.false, .bl Bool.false, .bl Bool.false, .bl Bool.false, .bl Bool.false, .bl Bool.false, .bl Bool.false, .bl Bool.false, .bl Bool.false, .bl Bool.false, .bl Bool.false, .bl Bool.false, .bl Bool.false, .bl Bool.false, .bl Bool.false, .bl Bool.false, .bl Bool.false, .bl Bool.false, .bl Bool.false, .bl Bool.false, .bl Bool.false, .bl Bool.false, .bl Bool.false, .bl Bool.false, .bl Bool.false, .bl Bool.false, .bl Bool.false, .bl Bool.false, .bl Bool.false, .bl Bool.false, .bl Bool.false, .bl Bool.false, .bl Bool.false, .bl Bool.false, .bl Bool.false, .bl Bool.false, .bl Bool.false, .bl Bool.false, .bl Bool.false, .bl Bool.false, .bl Bool.false, .bl Bool.false, .bl Bool.false, .bl Bool.false, .bl Bool.false, .bl Bool.false, .bl Bool.false, .bl Bool.false, .bl Bool.false, .bl Bool.false, .bl Bool.false, .bl Bool.false, .bl Bool.false, .bl Bool.false, .bl Bool.false, .bl Bool.false, .bl Bool.false, .bl Bool.false, .bl Bool.false, .bl Bool.false, .bl Bool.false, .bl Bool.false, .bl Bool.false, .bl Bool.false, .bl Bool.false, .bl Bool.false, .bl Bool.false, .bl Bool.false, .bl Bool.false, .bl Bool.false, .bl Bool.false, .bl Bool.false, .bl Bool.false, .bl Bool.false, .bl Bool.false, .bl Bool.false, .bl Bool.false], pl := [] }),
  (232, { kd := .arr 256 4, size := 256, bytes := 256, zero := [.bl Bool.false, .bl Bool.false, .bl Bool.false, .bl Bool.false, .bl Bool.false, .bl Bool.false, .bl Bool.false, .bl Bool.false, .bl Bool.false, .bl Bool.false, .bl Bool.false, .bl Bool.false, .bl Bool.false, .bl Bool.false, .bl Bool.false, .bl Bool.false, .bl Bool.false, .bl Bool.false, .bl Bool.false, .bl Bool.false, .bl Bool.false, .bl Bool.false, .bl Bool.false, .bl Bool.false, .bl Bool.false, .bl Bool.false, .bl Bool.false, .bl Bool.false, .bl Bool.false, .bl Bool.false, .bl Bool.false, .bl Bool.false, .bl Bool.false, .bl Bool.false, .bl Bool.false, .bl Bool.false, .bl Bool.false, .bl Bool.false, .bl Bool.false, .bl Bool.false, .bl Bool.false, .bl Bool.false, .bl Bool.false, .bl Bool.false, .bl Bool.false, .bl Bool.false, .bl Bool.false, .bl Bool.false, .bl Bool.false, .bl Bool.false, .bl Bool.false, .bl Bool.false, .bl Bool.false, .bl Bool.false, .bl Bool.false, .bl Bool.false, .bl Bool.false, .bl Bool.false, .bl Bool.false, .bl Bool.false, .bl Bool.false, .bl Bool.false, .bl Bool.false, .bl Bool.false, .bl Bool.false, .bl Bool.false, .bl Bool.false, .bl Bool.false, .bl Bool.false, .bl Bool.false, .bl Bool.false, .bl Bool.false, .bl Bool.false, .bl Bool.false, .bl Bool.false, .bl Bool.false, .bl Bool.false, .bl Bool.false, .bl Bool.false, .bl Bool.false, .bl Bool.false, .bl Bool.false, .bl Bool.false, .bl Bool.false, .bl Bool.false, .bl Bool.false, .bl Bool.false, .bl Bool.false, .bl Bool.false, .bl Bool.false, .bl Bool.false, .bl Bool.false, .bl Bool.false, .bl Bool.false, .bl Bool.false, .bl Bool.false, .bl Bool.false, .bl Bool.false, .bl Bool.false, .bl Bool.false, .bl Bool.false, .bl Bool.false, .bl Bool.false, .bl Bool.false, .bl Bool.false, .bl Bool.false, .bl Bool.false, .bl Bool.false, .bl Bool.false, .bl Bool.false, .bl Bool.false, .bl Bool.false, .bl Bool.false, .bl Bool.false, .bl Bool.false, .bl Bool.false, .bl Bool.false, .bl Bool.false, .bl Bool.false, .bl Bool.false, .bl Bool.false, .bl Bool.false, .bl Bool.false, .bl Bool.false, .bl Bool.false, .bl Bool.false, .bl Bool.false, .bl Bool.false, .bl Bool.false, .bl Bool.false, .bl Bool.false, .bl Bool.false, .bl Bool.false, .bl Bool.false, .bl Bool.false, .bl Bool.false, .bl Bool.false, .bl Bool.false, .bl Bool.false, .bl Bool.false, .bl Bool.false, .bl Bool.false, .bl Bool.false, .bl Bool.false, .bl Bool.false, .bl Bool.false, .bl Bool.false, .bl Bool.false, .bl Bool.false, .bl Bool.false, .bl Bool.false, .bl Bool.false, .bl Bool.false, .bl Bool.false, .bl Bool.false, .bl Bool.false, .bl Bool.false, .bl Bool.false, .bl Bool.false, .bl Bool.false, .bl Bool.false, .bl Bool.false, .bl Bool.false, .bl Bool.false, .bl Bool.false, .bl Bool.false, .bl Bool.false, .bl Bool.false, .bl Bool.false, .bl Bool.false, .bl Bool.false, .bl Bool.false, .bl Bool.false, .bl Bool.false, .bl Bool.false, .bl Bool.false, .bl Bool.false, .bl Bool.false, .bl Bool.false, .bl Bool.false, .bl Bool.false, .bl Bool.false, .bl Bool.false, .bl Bool.false, .bl Bool.false, .bl Bool.false, .bl Bool.false, .bl Bool.false, .bl Bool.false, .bl Bool.false, .bl Bool.false, .bl Bool.false, .bl Bool.false, .bl Bool.false, .bl Bool.false, .bl Bool.false, .bl Bool.false, .bl Bool.false, .bl Bool.false, .bl Bool.false, .bl Bool.false, .bl Bool.false, .bl Bool.false, .bl Bool.false, .bl Bool.false, .bl Bool.false, .bl Bool.false, .bl Bool.false, .bl Bool.false, .bl Bool.false, .bl Bool.false, .bl Bool.false, .bl Bool.false, .bl Bool.false, .bl Bool.false, .bl Bool.false, .bl Bool.false, .bl Bool.false, .bl Bool.false, .bl Bool.false, .bl Bool.false, .bl Bool.false, .bl Bool.false, .bl Bool.false, .bl Bool.false, .bl Bool.false, .bl Bool.false, .bl Bool.false, .bl Bool.false, .bl Bool.false, .bl Bool.false, .bl Bool.false, .bl Bool.false, .bl Bool.false, .bl Bool.false, .bl Bool.false, .bl Bool.false, .bl Bool.false, .bl Bool.false, .bl Bool.false, .bl Bool.false, .bl Bool.false, .bl Bool.false, .bl Bool.false, .bl Bool.false, .bl Bool.false, .bl Bool.false, .bl Bool.false, .bl Bool.false, .bl Bool.false, .bl Bool.false, .bl Bool.false, .bl Bool.false, .bl Bool.false, .bl Bool.false, .bl Bool.false], cmp := .some [.bl Bool.false, .bl Bool.false, .bl Bool.false, .bl Bool.false, .bl Bool.false, .bl Bool.false, .bl Bool.false, .bl Bool.false, .bl Bool.false, .bl Bool.false, .bl Bool.false, .bl Bool.false, .bl Bool.false, .bl Bool.false, .bl Bool.false, .bl Bool.false, .bl Bool.false, .bl Bool.false, .bl Bool.false, .bl Bool.false, .bl Bool.false, .bl Bool.false, .bl Bool.false, .bl Bool.false, .bl Bool.false, .bl Bool.false, .bl Bool.false, .bl Bool.false, .bl Bool.false, .bl Bool.false, .bl Bool.false, .bl Bool.false, .bl Bool.false, .bl Bool.false, .bl Bool.false, .bl Bool.false, .bl Bool.false, .bl Bool.false, .bl Bool.false, .bl Bool.false, .bl Bool.false, .bl Bool.false, .bl Bool.false, .bl Bool.false, .bl Bool.false, .bl Bool.false, .bl Bool.false, .bl Bool.false, .bl Bool.false, .bl Bool.false, .bl Bool.false, .bl Bool.false, .bl Bool.false, .bl Bool.false, .bl Bool.false, .bl Bool.false, .bl Bool.false, .bl Bool.false, .bl Bool.false, .bl Bool.false, .bl Bool.false, .bl Bool.false, .bl Bool.false, .bl Bool.false, .bl Bool.false, .bl Bool.false, .bl Bool.false, .bl Bool.false, .bl Bool.false, .bl Bool.false, .bl Bool.false, .bl Bool.false, .bl Bool.false, .bl Bool.false, .bl Bool.false, .bl Bool.false, .bl Bool.false, .bl Bool.false, .bl Bool.false, .bl Bool.false, .bl Bool.false, .bl Bool.false, .bl Bool.false, .bl Bool.false, .bl Bool.false, .bl Bool.false, .bl Bool.false, .bl Bool.false, .bl Bool.false, .bl Bool.false, .bl Bool.false, .bl Bool.false, .bl Bool.false, .bl Bool.false, .bl Bool.false, .bl Bool.false, .bl Bool.false, .bl Bool.false, .bl Bool.false, .bl Bool.false, .bl Bool.false, .bl Bool.false, .bl Bool.false, .bl Bool.false, .bl Bool.false, .bl Bool.false, .bl Bool.false, .bl Bool.false, .bl Bool.false, .bl Bool.false, .bl Bool.false, .bl Bool.false, .bl Bool.false, .bl Bool.false, .bl Bool.false, .bl Bool.false, .bl Bool.false, .bl Bool.false, .bl Bool.false, .bl Bool.false, .bl Bool.false, .bl Bool.false, .bl Bool.false, .bl Bool.false, .bl Bool.false, .bl Bool.false, .bl Bool.false, .bl Bool.false, .bl Bool.false, .bl Bool.false, .bl Bool.false, .bl Bool.false, .bl Bool.false, .bl Bool.false, .bl Bool.false, .bl Bool.false, .bl Bool.false, .bl Bool.false, .bl Bool.false, .bl Bool.false, .bl Bool.false, .bl Bool.false, .bl Bool.false, .bl Bool.false, .bl Bool.false, .bl Bool.false, .bl Bool.false, .bl Bool.false, .bl Bool.false, .bl Bool.false, .bl Bool.false, .bl Bool.false, .bl Bool.false, .bl Bool.false, .bl Bool.false, .bl Bool.false, .bl Bool.false, .bl Bool.false, .bl Bool.false, .bl Bool.false, .bl Bool.false, .bl Bool.false, .bl Bool.false, .bl Bool.false, .bl Bool.false, .bl Bool.false, .bl Bool.false, .bl Bool.false, .bl Bool.false, .bl Bool.false, .bl Bool.false, .bl Bool.false, .bl Bool.false, .bl Bool.false, .bl Bool.false, .bl Bool.false, .bl Bool.false, .bl Bool.false, .bl Bool.false, .bl Bool.false, .bl Bool.false, .bl Bool.false, .bl Bool.false, .bl Bool.false, .bl Bool.false, .bl Bool.false, .bl Bool.false, .bl Bool.false, .bl Bool.false, .bl Bool.false, .bl Bool.false, .bl Bool.false, .bl Bool.false, .bl Bool.false, .bl Bool.false, .bl Bool.false, .bl Bool.false, .bl Bool.false, .bl Bool.false, .bl Bool.false, .bl Bool.false, .bl Bool.false, .bl Bool.false, .bl Bool.false, .bl Bool.false, .bl Bool.false, .bl Bool.false, .bl Bool.false, .bl Bool.false, .bl Bool.false, .bl Bool.false, .bl Bool.false, .bl Bool.false, .bl Bool.false, .bl Bool.false, .bl Bool.false, .bl Bool.false, .bl Bool.false, .bl Bool.false, .bl Bool.false, .bl Bool.false, .bl Bool.false, .bl Bool.false, .bl Bool.false, .bl Bool.false, .bl Bool.false, .bl Bool.false, .bl Bool.false, .bl Bool.false, .bl Bool.false, .bl Bool.false, .bl Bool.false, .bl Bool.false, .bl Bool.false, .bl Bool.false, .bl Bool.false, .bl Bool.false, .bl Bool.false, .bl Bool.false, .bl Bool.false, .bl Bool.false, .bl Bool.false, .bl Bool.false, .bl Bool.false, .bl Bool.false, .bl Bool.false, .bl Bool.false, .bl Bool.false, .bl Bool.false, .bl Bool.false, .bl Bool.false, .bl Bool.false, .bl Bool.false, .bl Bool.false, .bl Bool.false, .bl Bool.false], pl := [] }),
  (233, { kd := .other, size := 1, bytes := 0, zero := [], cmp := .none, pl := [] }),
  (234, { kd := .func, size := 1, bytes := 8, zero := [.ot .nilFunc], cmp := .none, pl := [] }),
  (235, { kd := .func, size := 1, bytes := 8, zero := [.ot .nilFunc], cmp := .none, pl := [] }),
  (236, { kd := .ptr 232, size := 1, bytes := 8, zero := [.ot (.pointer .none)], cmp := .none, pl := [] }),
  (237, { kd := .func, size := 1, bytes := 8, zero := [.ot .nilFunc], cmp := .none, pl := [] }),
  (238, { kd := .func, size := 1, bytes := 8, zero := [.ot .nilFunc], cmp := .none, pl := [] }),
  (239, { kd := .func, size := 1, bytes := 8, zero := [.ot .nilFunc], cmp := .none, pl := [] }),
  (240, { kd := .func, size := 1, bytes := 8, zero := [.ot .nilFunc], cmp := .none, pl := [] }),
  (241, { kd := .func, size := 1, bytes := 8, zero := [.ot .nilFunc], cmp := .none, pl := [] }),
  (242, { kd := .func, size := 1, bytes := 8, zero := [.ot .nilFunc], cmp := .none, pl := [] }),
  (243, { kd := .int .i64, size := 1, bytes := 8, zero := [.it .i64 0], cmp := .some [.it .i64 0], pl := [] }),
  (244, { kd := .other, size := 1, bytes := 0, zero := [], cmp := .none, pl := [] }),
  (245, { kd := .func, size := 1, bytes := 8, zero := [.ot .nilFunc], cmp := .none, pl := [] }),
  (246, { kd := .func, size := 1, bytes := 8, zero := [.ot .nilFunc], cmp := .none, pl := [] }),
  (247, { kd := .func, size := 1, bytes := 8, zero := [.ot .nilFunc], cmp := .none, pl := [] }),
  (248, { kd := .func, size := 1, bytes := 8, zero := [.ot .nilFunc], cmp := .none, pl := [] }),
  (249, { kd := .func, size := 1, bytes := 8, zero := [.ot .nilFunc], cmp := .none, pl := [] }),
  (250, { kd := .func, size := 1, bytes := 8, zero := [.ot .nilFunc], cmp := .none, pl := [] }),
  (251, { kd := .int .u64, size := 1, bytes := 8, zero := [.it .u64 0], cmp := .some [.it .u64 0], pl := [] }),
  (252, { kd := .func, size := 1, bytes := 8, zero := [.ot .nilFunc], cmp := .none, pl := [] }),
  (253, { kd := .other, size := 1, bytes := 0, zero := [], cmp := .none, pl := [] }),
  (254, { kd := .func, size := 1, bytes := 8, zero := [.ot .nilFunc], cmp := .none, pl := [] }),
  (255, { kd := .func, size := 1, bytes := 8, zero := [.ot .nilFunc], cmp := .none, pl := [] }),
  (256, { kd := .func, size := 1, bytes := 8, zero := [.ot .nilFunc], cmp := .none, pl := [] }),
  (257, { kd := .func, size := 1, bytes := 8, zero := [.ot .nilFunc], cmp := .none, pl := [] }),
  (258, { kd := .int .u64, size := 1, bytes := 8, zero := [.it .u64 0], cmp := .some [.it .u64 0], pl := [] }),
  (259, { kd := .func, size := 1, bytes := 8, zero := [.ot .nilFunc], cmp := .none, pl := [] }),
  (260, { kd := .func, size := 1, bytes := 8, zero := [.ot .nilFunc], cmp := .none, pl := [] }),
  (261, { kd := .func, size := 1, bytes := 8, zero := [.ot .nilFunc], cmp := .none, pl := [] }),
  (262, { kd := .ptr 3, size := 1, bytes := 8, zero := [.ot (.pointer .none)], cmp := .none, pl := [] }),
  (263, { kd := .func, size := 1, bytes := 8, zero := [.ot .nilFunc], cmp := .none, pl := [] }),
  (264, { kd := .func, size := 1, bytes := 8, zero := [.ot .nilFunc], cmp := .none, pl := [] }),
  (265, { kd := .ptr 258, size := 1, bytes := 8, zero := [.ot (.pointer .none)], cmp := .none, pl := [] }),
  (266, { kd := .other, size := 1, bytes := 0, zero := [], cmp := .none, pl := [] }),
  (267, { kd := .func, size := 1, bytes := 8, zero := [.ot .nilFunc], cmp := .none, pl := [] }),
  (269, { kd := .struct [(0, 5), (1, 5)], size := 2, bytes := 2, zero := [.it .u8 0, .it .u8 0], cmp := .some [.it .u8 0, .it .u8 0], pl := [(0, 1), (1, 1)] }),
  (270, { kd := .struct [(0, 5), (1, 5)], size := 2, bytes := 2, zero := [.it .u8 0, .it .u8 0], cmp := .some [.it .u8 0, .it .u8 0], pl := [(0, 1), (1, 1)] }),
  (271, { kd := .arr 16 270, size := 32, bytes := 32, zero := [.it .u8 0, .it .u8 0, .it .u8 0, .it .u8 0, .it .u8 0, .it .u8 0, .it .u8 0, .it .u8 0, .it .u8 0, .it .u8 0, .it .u8 0, .it .u8 0, .it .u8 0, .it .u8 0, .it .u8 0, .it .u8 0, .it .u8 0, .it .u8 0, .it .u8 0, .it .u8 0, .it .u8 0, .it .u8 0, .it .u8 0, .it .u8 0, .it .u8 0, .it .u8 0, .it .u8 0, .it .u8 0, .it .u8 0, .it .u8 0, .it .u8 0, .it .u8 0], cmp := .some [.it .u8 0, .it .u8 0, .it .u8 0, .it .u8 0, .it .u8 0, .it .u8 0, .it .u8 0, .it .u8 0, .it .u8 0, .it .u8 0, .it .u8 0, .it .u8 0, .it .u8 0, .it .u8 0, .it .u8 0, .it .u8 0, .it .u8 0, .it .u8 0, .it .u8 0, .it .u8 0, .it .u8 0, .it .u8 0, .it .u8 0, .it .u8 0, .it .u8 0, .it .u8 0, .it .u8 0, .it .u8 0, .it .u8 0, .it .u8 0, .it .u8 0, .it .u8 0], pl := [] }),
  (272, { kd := .ptr 291, size := 1, bytes := 8, zero := [.ot (.pointer .none)], cmp := .none, pl := [] }),
  (273, { kd := .func, size := 1, bytes := 8, zero := [.ot .nilFunc], cmp := .none, pl := [] }),
  (274, { kd := .struct [(0, 17), (1, 17), (2, 17), (3, 9)], size := 4, bytes := 40, zero := [.ot (.pointer .none), .ot (.pointer .none), .ot (.pointer .none), .st []], cmp := .none, pl := [(0, 1), (1, 1), (2, 1), (3, 1)] }),
  (275, { kd := .struct [(0, 17), (1, 17), (2, 17), (3, 9)], size := 4, bytes := 40, zero := [.ot (.pointer .none), .ot (.pointer .none), .ot (.pointer .none), .st []], cmp := .none, pl := [(0, 1), (1, 1), (2, 1), (3, 1)] }),
  (276, { kd := .arr 0 16, size := 0, bytes := 0, zero := [], cmp := .none, pl := [] }),
  (277, { kd := .struct [(0, 276)], size := 0, bytes := 0, zero := [], cmp := .none, pl := [(0, 0)] }),
  (278, { kd := .struct [(0, 276)], size := 0, bytes := 0, zero := [], cmp := .none, pl := [(0, 0)] }),
  (279, { kd := .int .u8, size := 1, bytes := 1, zero := [.it .u8 0], cmp := .some [.it .u8 0], pl := [] }),
  (280, { kd := .int .u8, size := 1, bytes := 1, zero := [.it .u8 0], cmp := .some [.it .u8 0], pl := [] }),
  (281, { kd := .func, size := 1, bytes := 8, zero := [.ot .nilFunc], cmp := .none, pl := [] }),
  (282, { kd := .ptr 5, size := 1, bytes := 8, zero := [.ot (.pointer .none)], cmp := .none, pl := [] }),
  (283, { kd := .int .i32, size := 1, bytes := 4, zero := [.it .i32 0], cmp := .some [.it .i32 0], pl := [] }),
  (284, { kd := .int .i32, size := 1, bytes := 4, zero := [.it .i32 0], cmp := .some [.it .i32 0], pl := [] }),
  (285, { kd := .struct [(0, 12), (1, 12), (2, 226), (3, 279), (4, 5), (5, 5), (6, 280), (7, 281), (8, 282), (9, 283), (10, 284)], size := 11, bytes := 48, zero := [.it .u64 0, .it .u64 0, .it .u32 0, .it .u8 0, .it .u8 0, .it .u8 0, .it .u8 0, .ot .nilFunc, .ot (.pointer .none), .it .i32 0, .it .i32 0], cmp := .none, pl := [(0, 1), (1, 1), (2, 1), (3, 1), (4, 1), (5, 1), (6, 1), (7, 1), (8, 1), (9, 1), (10, 1)] }),
  (286, { kd := .struct [(0, 12), (1, 12), (2, 226), (3, 279), (4, 5), (5, 5), (6, 280), (7, 281), (8, 282), (9, 283), (10, 284)], size := 11, bytes := 48, zero := [.it .u64 0, .it .u64 0, .it .u32 0, .it .u8 0, .it .u8 0, .it .u8 0, .it .u8 0, .ot .nilFunc, .ot (.pointer .none), .it .i32 0, .it .i32 0], cmp := .none, pl := [(0, 1), (1, 1), (2, 1), (3, 1), (4, 1), (5, 1), (6, 1), (7, 1), (8, 1), (9, 1), (10, 1)] }),
  (287, { kd := .slice 151, size := 1, bytes := 24, zero := [.fs 2 []], cmp := .none, pl := [] }),
  (288, { kd := .struct [(0, 3), (1, 153), (37, 287)], size := 38, bytes := 96, zero := [.it .i64 0, .it .i64 0, .it .u8 0, .it .u8 0, .it .u8 0, .it .u8 0, .it .u8 0, .it .u8 0, .it .u8 0, .it .u8 0, .it .u8 0, .it .u8 0, .it .u8 0, .it .u8 0, .it .u8 0, .it .u8 0, .it .u8 0, .it .u8 0, .it .u8 0, .it .u8 0, .it .u8 0, .it .u8 0, .it .u8 0, .it .u8 0, .it .u8 0, .it .u8 0, .it .u8 0, .it .u8 0, .it .u8 0, .it .u8 0, .it .u8 0, .it .u8 0, .it .u8 0, .it .u8 0, .it .i64 0, .it .i64 0, .it .i64 0, .fs 2 []], cmp := .none, pl := [(0, 1), (1, 36), (37, 1)] }),
  (289, { kd := .struct [(0, 3), (1, 153), (37, 287)], size := 38, bytes := 96, zero := [.it .i64 0, .it .i64 0, .it .u8 0, .it .u8 0, .it .u8 0, .it .u8 0, .it .u8 0, .it .u8 0, .it .u8 0, .it .u8 0, .it .u8 0, .it .u8 0, .it .u8 0, .it .u8 0, .it .u8 0, .it .u8 0, .it .u8 0, .it .u8 0, .it .u8 0, .it .u8 0, .it .u8 0, .it .u8 0, .it .u8 0, .it .u8 0, .it .u8 0, .it .u8 0, .it .u8 0, .it .u8 0, .it .u8 0, .it .u8 0, .it .u8 0, .it .u8 0, .it .u8 0, .it .u8 0, .it .i64 0, .it .i64 0, .it .i64 0, .fs 2 []], cmp := .none, pl := [(0, 1), (1, 36), (37, 1)] }),
  (290, { kd := .struct [(0, 9)], size := 1, bytes := 16, zero := [.st []], cmp := .some [.st []], pl := [(0, 1)] }),
  (291, { kd := .struct [(0, 9)], size := 1, bytes := 16, zero := [.st []], cmp := .some [.st []], pl := [(0, 1)] }),
  (292, { kd := .usafe, size := 1, bytes := 8, zero := [.ot (.pointer .none)], cmp := .none, pl := [] }),
  (293, { kd := .func, size := 1, bytes := 8, zero := [.ot .nilFunc], cmp := .none, pl := [] })]
def ti (t : Nat) : Option Ty := Go.Sy.look t tyL
theorem tyL_ok : tyL.map (fun p => tyOf Tryz.prog p.1) = tyL.map (fun p => some p.2) := by kernel_rfl
theorem ti_ok : TiOK Tryz.prog ti := tiOK_of tyL_ok
end Go.Proofs.YtajeadkdacgldaaGreatDoor

/- What entering each function needs. Conditions: none. -/
namespace Go.Proofs.YtajeadkdacgldaaGreatDoor
open Go.Sy
set_option maxRecDepth 100000
/-- gosem.cut.init -/
theorem i2 : FnI Tryz.prog 2 1 [] (bd Tryz.f2) := FnI.mk' Tryz.func2 rfl rfl rfl Tryz.call2
/-- flotsam/flotsamlaw22.ValueOps -/
theorem i3 : FnI Tryz.prog 3 148 [.tmp 10] (bd Tryz.f3) := FnI.mk' Tryz.func3 rfl rfl rfl Tryz.call3
/-- flotsam/flotsamlaw22.few -/
theorem i4 : FnI Tryz.prog 4 44 [.tmp 4] (bd Tryz.f4) := FnI.mk' Tryz.func4 rfl rfl rfl Tryz.call4
/-- flotsam/flotsamlaw22.knows -/
theorem i5 : FnI Tryz.prog 5 63 [.tmp 0] (bd Tryz.f5) := FnI.mk' Tryz.func5 rfl rfl rfl Tryz.call5
/-- flotsam/value.Op -/
theorem i6 : FnI Tryz.prog 6 54 [.cell 6 30, .tmp 7] (bd Tryz.f6) := FnI.mk' Tryz.func6 rfl rfl rfl Tryz.call6
/-- flotsam/flotsamlaw22.num -/
theorem i8 : FnI Tryz.prog 8 4 [.tmp 2] (bd Tryz.f8) := FnI.mk' Tryz.func8 rfl rfl rfl Tryz.call8
/-- slices.Clone[[]flotsam/value.Var,flotsam/value.Var] -/
theorem i29 : FnI Tryz.prog 29 8 [.tmp 2] (bd Tryz.f29) := FnI.mk' Tryz.func29 rfl rfl rfl Tryz.call29
/-- flotsam/value.find -/
theorem i30 : FnI Tryz.prog 30 8 [.tmp 4] (bd Tryz.f30) := FnI.mk' Tryz.func30 rfl rfl rfl Tryz.call30
/-- flotsam/flotsamref16.expr -/
theorem i32 : FnI Tryz.prog 32 41 [.tmp 4] (bd Tryz.f32) := FnI.mk' Tryz.func32 rfl rfl rfl Tryz.call32
/-- slices.IndexFunc[[]flotsam/value.Var,flotsam/value.Var] -/
theorem i42 : FnI Tryz.prog 42 19 [.tmp 4] (bd Tryz.f42) := FnI.mk' Tryz.func42 rfl rfl rfl Tryz.call42
/-- flotsam/value.find$1 -/
theorem i43 : FnI Tryz.prog 43 8 [.tmp 3] (bd Tryz.f43) := FnI.mk' Tryz.func43 rfl rfl rfl Tryz.call43
/-- flotsam/bdisk.New -/
theorem i44 : FnI Tryz.prog 44 14 [.tmp 2, .tmp 3] (bd Tryz.f44) := FnI.mk' Tryz.func44 rfl rfl rfl Tryz.call44
/-- slices.Clone[[]flotsam/api.Sector,flotsam/api.Sector] -/
theorem i45 : FnI Tryz.prog 45 8 [.tmp 2] (bd Tryz.f45) := FnI.mk' Tryz.func45 rfl rfl rfl Tryz.call45
/-- flotsam/tree.Right$2 -/
theorem i51 : FnI Tryz.prog 51 13 [.tmp 2] (bd Tryz.f51) := FnI.mk' Tryz.func51 rfl rfl rfl Tryz.call51
/-- flotsam/tree.Right$3 -/
theorem i53 : FnI Tryz.prog 53 6 [.tmp 2] (bd Tryz.f53) := FnI.mk' Tryz.func53 rfl rfl rfl Tryz.call53
/-- flotsam/tree.block -/
theorem i54 : FnI Tryz.prog 54 9 [.tmp 4] (bd Tryz.f54) := FnI.mk' Tryz.func54 rfl rfl rfl Tryz.call54
/-- slices.ContainsFunc[[]flotsam/api.Proc,flotsam/api.Proc] -/
theorem i55 : FnI Tryz.prog 55 9 [.tmp 4] (bd Tryz.f55) := FnI.mk' Tryz.func55 rfl rfl rfl Tryz.call55
/-- slices.ContainsFunc[[]flotsam/api.Oracle,flotsam/api.Oracle] -/
theorem i56 : FnI Tryz.prog 56 9 [.tmp 4] (bd Tryz.f56) := FnI.mk' Tryz.func56 rfl rfl rfl Tryz.call56
/-- slices.ContainsFunc[[][]flotsam/api.Stmt,[]flotsam/api.Stmt] -/
theorem i57 : FnI Tryz.prog 57 9 [.tmp 4] (bd Tryz.f57) := FnI.mk' Tryz.func57 rfl rfl rfl Tryz.call57
/-- slices.Index[[]int,int] -/
theorem i64 : FnI Tryz.prog 64 19 [.tmp 4] (bd Tryz.f64) := FnI.mk' Tryz.func64 rfl rfl rfl Tryz.call64
/-- flotsam/tree.walk -/
theorem i68 : FnI Tryz.prog 68 4 [.tmp 2] (bd Tryz.f68) := FnI.mk' Tryz.func68 rfl rfl rfl Tryz.call68
/-- slices.ContainsFunc[[]flotsam/api.Expr,flotsam/api.Expr] -/
theorem i75 : FnI Tryz.prog 75 9 [.tmp 4] (bd Tryz.f75) := FnI.mk' Tryz.func75 rfl rfl rfl Tryz.call75
/-- flotsam/tree.expr$1 -/
theorem i76 : FnI Tryz.prog 76 9 [.tmp 3] (bd Tryz.f76) := FnI.mk' Tryz.func76 rfl rfl rfl Tryz.call76
/-- slices.ContainsFunc[[]flotsam/api.Stmt,flotsam/api.Stmt] -/
theorem i77 : FnI Tryz.prog 77 9 [.tmp 4] (bd Tryz.f77) := FnI.mk' Tryz.func77 rfl rfl rfl Tryz.call77
/-- slices.IndexFunc[[]flotsam/api.Proc,flotsam/api.Proc] -/
theorem i80 : FnI Tryz.prog 80 19 [.tmp 4] (bd Tryz.f80) := FnI.mk' Tryz.func80 rfl rfl rfl Tryz.call80
/-- slices.IndexFunc[[]flotsam/api.Oracle,flotsam/api.Oracle] -/
theorem i81 : FnI Tryz.prog 81 19 [.tmp 4] (bd Tryz.f81) := FnI.mk' Tryz.func81 rfl rfl rfl Tryz.call81
/-- slices.IndexFunc[[][]flotsam/api.Stmt,[]flotsam/api.Stmt] -/
theorem i82 : FnI Tryz.prog 82 19 [.tmp 4] (bd Tryz.f82) := FnI.mk' Tryz.func82 rfl rfl rfl Tryz.call82
/-- slices.Backward[[]flotsam/api.Write,flotsam/api.Write] -/
theorem i87 : FnI Tryz.prog 87 4 [.tmp 2] (bd Tryz.f87) := FnI.mk' Tryz.func87 rfl rfl rfl Tryz.call87
/-- flotsam/tree.walk$1 -/
theorem i90 : FnI Tryz.prog 90 37 [] (bd Tryz.f90) := FnI.mk' Tryz.func90 rfl rfl rfl Tryz.call90
/-- slices.IndexFunc[[]flotsam/api.Expr,flotsam/api.Expr] -/
theorem i98 : FnI Tryz.prog 98 19 [.tmp 4] (bd Tryz.f98) := FnI.mk' Tryz.func98 rfl rfl rfl Tryz.call98
/-- slices.IndexFunc[[]flotsam/api.Stmt,flotsam/api.Stmt] -/
theorem i99 : FnI Tryz.prog 99 19 [.tmp 4] (bd Tryz.f99) := FnI.mk' Tryz.func99 rfl rfl rfl Tryz.call99
/-- slices.Backward[[]flotsam/api.Write,flotsam/api.Write]$1 -/
theorem i109 : FnI Tryz.prog 109 19 [] (bd Tryz.f109) := FnI.mk' Tryz.func109 rfl rfl rfl Tryz.call109
/-- flotsam/sector.Of -/
theorem i110 : FnI Tryz.prog 110 9 [.cell 2 81, .tmp 3] (bd Tryz.f110) := FnI.mk' Tryz.func110 rfl rfl rfl Tryz.call110
/-- flotsam/sector.Put -/
theorem i122 : FnI Tryz.prog 122 19 [.cell 6 81, .tmp 7] (bd Tryz.f122) := FnI.mk' Tryz.func122 rfl rfl rfl Tryz.call122
/-- slices.Clone[[]int,int] -/
theorem i136 : FnI Tryz.prog 136 8 [.tmp 2] (bd Tryz.f136) := FnI.mk' Tryz.func136 rfl rfl rfl Tryz.call136
/-- flotsam/layout.RightInode$1 -/
theorem i138 : FnI Tryz.prog 138 9 [.tmp 2] (bd Tryz.f138) := FnI.mk' Tryz.func138 rfl rfl rfl Tryz.call138
/-- slices.ContainsFunc[[]int,int] -/
theorem i139 : FnI Tryz.prog 139 9 [.tmp 4] (bd Tryz.f139) := FnI.mk' Tryz.func139 rfl rfl rfl Tryz.call139
/-- flotsam/layout.RightInode$2 -/
theorem i140 : FnI Tryz.prog 140 5 [.tmp 2] (bd Tryz.f140) := FnI.mk' Tryz.func140 rfl rfl rfl Tryz.call140
/-- slices.Sort[[]int,int] -/
theorem i141 : FnI Tryz.prog 141 11 [] (bd Tryz.f141) := FnI.mk' Tryz.func141 rfl rfl rfl Tryz.call141
/-- slices.Compact[[]int,int] -/
theorem i142 : FnI Tryz.prog 142 61 [.tmp 2] (bd Tryz.f142) := FnI.mk' Tryz.func142 rfl rfl rfl Tryz.call142
/-- slices.IndexFunc[[]int,int] -/
theorem i156 : FnI Tryz.prog 156 19 [.tmp 4] (bd Tryz.f156) := FnI.mk' Tryz.func156 rfl rfl rfl Tryz.call156
/-- slices.pdqsortOrdered[int] -/
theorem i157 : FnI Tryz.prog 157 134 [] (bd Tryz.f157) := FnI.mk' Tryz.func157 rfl rfl rfl Tryz.call157
/-- slices.insertionSortOrdered[int] -/
theorem i177 : FnI Tryz.prog 177 49 [] (bd Tryz.f177) := FnI.mk' Tryz.func177 rfl rfl rfl Tryz.call177
end Go.Proofs.YtajeadkdacgldaaGreatDoor

namespace Go.Proofs.YtajeadkdacgldaaGreatDoor
open Go.Sy
set_option maxRecDepth 100000
set_option linter.all false
/- Names, paths, their order; nodes, changes. -/
def signB (c : UInt8) : Bool := decide (97 ≤ c.toNat ∧ c.toNat ≤ 122 ∨ 48 ≤ c.toNat ∧ c.toNat ≤ 57 ∨ c.toNat = 46 ∨ c.toNat = 95)
def nameB (s : List UInt8) : Bool := decide (1 ≤ s.length ∧ s.length ≤ 8 ∧ s ≠ [46] ∧ s ≠ [46, 46]) && s.all signB
/-- The words of a text, parted by a byte. -/
def wordsC (c : UInt8) : List UInt8 → List (List UInt8)
  | [] => [[]]
  | b :: t => if b = c then [] :: wordsC c t else match wordsC c t with
    | [] => [[b]]
    | w :: r => (b :: w) :: r
def splitP (p : List UInt8) : List (List UInt8) × Int :=
  if p = [47] then ([], 0) else
  match p with
  | [] => ([], 9)
  | b :: r => if b = 47 then (if (wordsC 47 r).length ≤ 4 ∧ (wordsC 47 r).all nameB = true then (wordsC 47 r, 0) else ([], 9)) else ([], 9)
structure Nod where
  p : List UInt8
  d : Bool
  x : List UInt8
deriving DecidableEq
structure Chg where
  k : Int
  a : Nod
  b : Nod
deriving DecidableEq
def key (p : List UInt8) : List (List UInt8) := (splitP p).1
def cmpS (a b : List UInt8) : Int := if Op.bytesLess a b = true then -1 else if Op.bytesLess b a = true then 1 else 0
def cmpN : List (List UInt8) → List (List UInt8) → Int
  | [], [] => 0
  | [], _ :: _ => -1
  | _ :: _, [] => 1
  | x :: a, y :: b => if cmpS x y = 0 then cmpN a b else cmpS x y
def lt (x y : Nod) : Prop := cmpN (key x.p) (key y.p) < 0
def atP (l : List Nod) (p : List UInt8) : Option Nod := l.find? (fun x => x.p == p)
def allD (a b : List Nod) : List Nod := a ++ b.filter (fun y => (atP a y.p).isNone)
end Go.Proofs.YtajeadkdacgldaaGreatDoor

namespace Go.Proofs.YtajeadkdacgldaaGreatDoor
open Go.Sy
set_option maxRecDepth 100000
set_option linter.all false
theorem mixed : Tryz.prog.follows .mixedOrders = true := by kernel_rfl
theorem gA {p q : Prop} (k : q) (h : q → p := by intro k; with_reducible first | exact Spl.tt k | exact Spl.ff k) : p := h k
theorem gB {p q : Prop} (k : q) (h : q → p := by intro k; with_reducible first | exact draw_auto ti_ok mixed (by decide +kernel) k | exact g_i64 k | exact g_u64 k | exact g_u8 k | exact g_iq k | exact g_uq k | exact g_rem k | exact LetN.mk k | exact g_hm k | exact g_hb k | exact g_lit k) : p := h k
theorem gZ {p : Prop} {α : Type} {A B C : α → Prop} (k : ∀ x, A x → B x → C x) (h : (∀ x, A x → B x → C x) → p := by intro k; with_reducible first | exact g_nm8 k | exact g_n8 k | exact g_b8 k) : p := h k
theorem gY {p : Prop} {α : Type} {A B : α → Prop} (k : ∀ x, A x → B x) (h : (∀ x, A x → B x) → p := by intro k; with_reducible first | exact g_nm k | exact g_im k | exact g_n k | exact g_b k) : p := h k
theorem gE {p q : Prop} (k : q) (h : q → p := by intro k; with_reducible first | exact g_and k | exact g_c k | exact NilS.ts k | exact LetE.now k | exact AtD.now k | exact LetC.now k | exact g_some k | exact g_yk k | exact g_nk k | exact g_y k | exact g_f k | exact AtA.mk' k) : p := h k
theorem gS {p a b A B : Prop} (k : a → A) (l : b → B) (h : (a → A) → (b → B) → p := by intro k l; with_reducible first | exact Spl.pd k l | exact Spl.peq k l | exact Spl.pne k l | exact Spl.seq k l | exact Spl.sne k l) : p := h k l
end Go.Proofs.YtajeadkdacgldaaGreatDoor

namespace Go.Proofs.YtajeadkdacgldaaGreatDoor
open Go.Sy
set_option maxRecDepth 100000
set_option linter.all false
end Go.Proofs.YtajeadkdacgldaaGreatDoor

/- Contracts of the library at this program (laid by the shelf tool), those that are used. Conditions: none. -/
namespace Go.Proofs
open Go.Shelf
def Tryz.lays189_ren : Go.Shelf.Ren := ⟨fun | 189 => 141 | 125 => 158 | 257 => 157 | 128 => 186 | 129 => 187 | 294 => 177 | 295 => 178 | 296 => 179 | 297 => 180 | 298 => 181 | 299 => 182 | 216 => 183 | 300 => 184 | 301 => 185 | 328 => 196 | 329 => 197 | 330 => 198 | 331 => 199 | 332 => 200 | 215 => 201 | 343 => 206 | n => n, fun | 28 => 84 | 3 => 3 | 46 => 132 | 0 => 0 | 51 => 226 | 53 => 251 | 4 => 4 | 183 => 244 | 182 => 243 | 131 => 115 | 5 => 5 | 9 => 9 | 218 => 258 | 222 => 262 | 228 => 265 | 229 => 266 | n => n, fun | n => n⟩
theorem Tryz.lays189 : Go.Proofs.Lays.n189 Tryz.prog Tryz.lays189_ren := {
  mixed := by kernel_rfl
  f125 := Tryz.func158.trans (congrArg some (by kernel_rfl))
  f128 := Tryz.func186.trans (congrArg some (by kernel_rfl))
  f129 := Tryz.func187.trans (congrArg some (by kernel_rfl))
  f189 := Tryz.func141.trans (congrArg some (by kernel_rfl))
  f215 := Tryz.func201.trans (congrArg some (by kernel_rfl))
  f216 := Tryz.func183.trans (congrArg some (by kernel_rfl))
  f257 := Tryz.func157.trans (congrArg some (by kernel_rfl))
  f294 := Tryz.func177.trans (congrArg some (by kernel_rfl))
  f295 := Tryz.func178.trans (congrArg some (by kernel_rfl))
  f296 := Tryz.func179.trans (congrArg some (by kernel_rfl))
  f297 := Tryz.func180.trans (congrArg some (by kernel_rfl))
  f298 := Tryz.func181.trans (congrArg some (by kernel_rfl))
  f299 := Tryz.func182.trans (congrArg some (by kernel_rfl))
  f300 := Tryz.func184.trans (congrArg some (by kernel_rfl))
  f301 := Tryz.func185.trans (congrArg some (by kernel_rfl))
  f328 := Tryz.func196.trans (congrArg some (by kernel_rfl))
  f329 := Tryz.func197.trans (congrArg some (by kernel_rfl))
  f330 := Tryz.func198.trans (congrArg some (by kernel_rfl))
  f331 := Tryz.func199.trans (congrArg some (by kernel_rfl))
  f332 := Tryz.func200.trans (congrArg some (by kernel_rfl))
  f343 := Tryz.func206.trans (congrArg some (by kernel_rfl))
  t0 := Tryz.underlying0
  a0 := Tryz.isAgg0
  z0 := Tryz.sizeOf0
  v0 := Tryz.zeroValue0
  t3 := Tryz.underlying3
  a3 := Tryz.isAgg3
  z3 := Tryz.sizeOf3
  v3 := Tryz.zeroValue3
  t4 := Tryz.underlying4
  a4 := Tryz.isAgg4
  z4 := Tryz.sizeOf4
  v4 := Tryz.zeroValue4
  t5 := Tryz.underlying5
  a5 := Tryz.isAgg5
  z5 := Tryz.sizeOf5
  v5 := Tryz.zeroValue5
  t9 := Tryz.underlying9
  a9 := Tryz.isAgg9
  z9 := Tryz.sizeOf9
  v9 := Tryz.zeroValue9
  t28 := Tryz.underlying84
  a28 := Tryz.isAgg84
  z28 := Tryz.sizeOf84
  v28 := Tryz.zeroValue84
  t46 := Tryz.underlying132
  a46 := Tryz.isAgg132
  z46 := Tryz.sizeOf132
  v46 := Tryz.zeroValue132
  t51 := Tryz.underlying226
  a51 := Tryz.isAgg226
  z51 := Tryz.sizeOf226
  v51 := Tryz.zeroValue226
  t53 := Tryz.underlying251
  a53 := Tryz.isAgg251
  z53 := Tryz.sizeOf251
  v53 := Tryz.zeroValue251
  t131 := Tryz.underlying115
  a131 := Tryz.isAgg115
  z131 := Tryz.sizeOf115
  v131 := Tryz.zeroValue115
  t182 := Tryz.underlying243
  a182 := Tryz.isAgg243
  z182 := Tryz.sizeOf243
  v182 := Tryz.zeroValue243
  t183 := Tryz.underlying244
  a183 := Tryz.isAgg244
  z183 := Tryz.sizeOf244
  v183 := Tryz.zeroValue244
  t218 := Tryz.underlying258
  a218 := Tryz.isAgg258
  z218 := Tryz.sizeOf258
  v218 := Tryz.zeroValue258
  t222 := Tryz.underlying262
  a222 := Tryz.isAgg262
  z222 := Tryz.sizeOf262
  v222 := Tryz.zeroValue262
  t228 := Tryz.underlying265
  a228 := Tryz.isAgg265
  z228 := Tryz.sizeOf265
  v228 := Tryz.zeroValue265
  t229 := Tryz.underlying266
  a229 := Tryz.isAgg266
  z229 := Tryz.sizeOf266
  v229 := Tryz.zeroValue266 }
open Go.Sort Go.RowKit in
theorem Tryz.slices_Sort_int (blk off cap : Nat) (zs : List Int) (w : World) (hH : Holds (Value.int .i64) w blk off zs.toArray) (hblk : blk < w.heap.size) (hsz : zs.length < 4611686018427387904) :
    Calls Tryz.prog 141 #[.slice (some ⟨blk, off, none⟩) zs.length cap] w fun e w' =>
      e = .returned (.tuple #[]) ∧ ∃ n os, w' = grow (putRow (Value.int .i64) (Sort.ahead w n) blk off (zs.mergeSort fun x y => decide (x ≤ y)).toArray) os := Any.slices_Sort_int Tryz.lays189 blk off cap zs w hH hblk hsz
def Tryz.laysNm220_ren : Go.Shelf.Ren := ⟨fun | 20 => 142 | n => n, fun | 22 => 84 | 3 => 3 | 4 => 4 | 0 => 0 | n => n, fun | n => n⟩
theorem Tryz.laysNm220 : Go.Proofs.Lays2.n20 Tryz.prog Tryz.laysNm220_ren := {
  mixed := by kernel_rfl
  f20 := Tryz.func142.trans (congrArg some (by kernel_rfl))
  t0 := Tryz.underlying0
  a0 := Tryz.isAgg0
  z0 := Tryz.sizeOf0
  v0 := Tryz.zeroValue0
  t3 := Tryz.underlying3
  a3 := Tryz.isAgg3
  z3 := Tryz.sizeOf3
  v3 := Tryz.zeroValue3
  t4 := Tryz.underlying4
  a4 := Tryz.isAgg4
  z4 := Tryz.sizeOf4
  v4 := Tryz.zeroValue4
  t22 := Tryz.underlying84
  a22 := Tryz.isAgg84
  z22 := Tryz.sizeOf84
  v22 := Tryz.zeroValue84
  i3 := by kernel_rfl }
open Go.RowKit Go.Lib Go.Sort in
/-- slices.Compact at []int: "Compact replaces consecutive runs of equal elements with a single copy. This is like the uniq command found on Unix. Compact modifies the contents of the slice s and returns the modified slice, which may have a smaller length. Compact zeroes the elements between the new length and the original length. The result preserves the nilness of s.": IT RETURNS THE SLICE CUT TO 'Lib.compact zs'; ITS CELLS HOLD 'Lib.compact zs', THEN ZERO VALUES up to the old length; all else is as it was, but for the count of draws. IN THE WORDS OF slices.Sort's CONTRACT ('Holds', 'putRow'): so the everyday 'slices.Sort(xs); xs = slices.Compact(xs)' goes from the one contract to the other. It asks 'zs.length ≤ cap' (every slice's: the reslicing 's[:k]' looks at it). Length 0, nil: '.._empty'. (LAID: no walk: one application.) -/
theorem Tryz.slices_Compact_int (blk off cap : Nat) (zs : List Int) (w : World) (hH : Holds (Value.int .i64) w blk off zs.toArray) (hsz : zs.length ≤ 9223372036854775807) (hcap : zs.length ≤ cap) :
    Calls Tryz.prog 142 #[.slice (some ⟨blk, off, none⟩) zs.length cap] w fun e w' => e = .returned (.slice (some ⟨blk, off, none⟩) (Lib.compact zs).length cap) ∧ ∃ q, w' = putRow (Value.int .i64) (Sort.ahead w q) blk off (Lib.compact zs ++ List.replicate (zs.length - (Lib.compact zs).length) 0).toArray := Any.slices_Compact_int Tryz.laysNm220 blk off cap zs w hH hsz hcap
end Go.Proofs

namespace Go.Proofs.YtajeadkdacgldaaGreatDoor
open Go.Sy
set_option maxRecDepth 100000
set_option linter.all false
theorem wordsC_some (c : UInt8) : ∀ (s : List UInt8), 0 ≤ Lib.indexByte s c → Lib.indexByte s c < s.length ∧ wordsC c s = s.take (Lib.indexByte s c).toNat :: wordsC c (s.drop ((Lib.indexByte s c).toNat + 1)) ∧ s.count c = 1 + (s.drop ((Lib.indexByte s c).toNat + 1)).count c
  | [], h => by simp [Lib.indexByte] at h
  | b :: t, h => by
    have hge := Lib.indexByte_ge t c
    by_cases hb : b = c
    · obtain rfl := hb
      have e : Lib.indexByte (b :: t) b = 0 := by simp [Lib.indexByte]
      rw [e]
      refine ⟨by simp, by simp [wordsC], by simp; omega⟩
    · have hb' : (b == c) = false := beq_eq_false_iff_ne.2 hb
      have e : Lib.indexByte (b :: t) c = if Lib.indexByte t c == -1 then -1 else Lib.indexByte t c + 1 := by simp [Lib.indexByte, hb]
      rw [e] at h ⊢
      by_cases h1 : Lib.indexByte t c = -1
      · rw [h1] at h; simp at h
      · have h2 : (Lib.indexByte t c == -1) = false := by simpa using h1
        rw [h2] at h ⊢
        simp only [Bool.false_eq_true, if_false] at h ⊢
        obtain ⟨k1, k2, k3⟩ := wordsC_some c t (by omega)
        have hn : (Lib.indexByte t c + 1).toNat = (Lib.indexByte t c).toNat + 1 := by omega
        rw [hn]
        refine ⟨by simp; omega, ?_, ?_⟩
        · simp only [wordsC, if_neg hb, k2, List.take_succ_cons, List.drop_succ_cons]
        · simp only [List.drop_succ_cons, List.count_cons, hb', Bool.false_eq_true, if_false, Nat.add_zero]
          exact k3
end Go.Proofs.YtajeadkdacgldaaGreatDoor

namespace Go.Proofs.YtajeadkdacgldaaGreatDoor
open Go.Sy
set_option maxRecDepth 100000
set_option linter.all false
theorem none_of {c : UInt8} {r : List UInt8} (h : r.count c = 0) : Lib.indexByte r c = -1 := by
  by_cases h0 : 0 ≤ Lib.indexByte r c
  · have := (wordsC_some c r h0).2.2
    omega
  · have := Lib.indexByte_ge r c
    omega
end Go.Proofs.YtajeadkdacgldaaGreatDoor

namespace Go.Proofs.YtajeadkdacgldaaGreatDoor
open Go.Sy
set_option maxRecDepth 100000
set_option linter.all false
end Go.Proofs.YtajeadkdacgldaaGreatDoor

/- Sectors, inodes, entries as data. Conditions: none. -/
namespace Go.Proofs.YtajeadkdacgldaaGreatDoor
open Go.Sy
set_option maxRecDepth 100000
set_option linter.all false
def encS (s : List UInt8) : List D := s.map (fun b => .it .u8 b.toNat)
def zeroS : List UInt8 := List.replicate 32 0
theorem encS_len (s : List UInt8) : (encS s).length = s.length := List.length_map ..
theorem eqS : ∀ (s t : List UInt8), s.length = t.length → eqDs (encS s) (encS t) = decide (s = t)
  | [], [], _ => rfl
  | [], b :: t, h => by cases h
  | a :: s, [], h => by cases h
  | a :: s, b :: t, h => by
    have ih := eqS s t (by simpa using h)
    show (eqD (.it .u8 a.toNat) (.it .u8 b.toNat) && eqDs (encS s) (encS t)) = _
    rw [ih, Bool.eq_iff_iff]
    simp only [eqD, Bool.and_eq_true, beq_iff_eq, decide_eq_true_eq, List.cons.injEq]
    refine and_congr_left' ⟨fun h => UInt8.toNat.inj (by omega), fun h => by rw [h]⟩
theorem likeS : ∀ (s t : List UInt8), s.length = t.length → likes (encS s) (encS t) = true
  | [], [], _ => rfl
  | [], b :: t, h => by cases h
  | a :: s, [], h => by cases h
  | a :: s, b :: t, h => by
    have ih := likeS s t (by simpa using h)
    show (likeD (.it .u8 a.toNat) (.it .u8 b.toNat) && likes (encS s) (encS t)) = true
    rw [ih]; rfl
theorem likeSS (s t : List UInt8) (hs : s.length = 32) (ht : t.length = 32) : (true && (likes (encS zeroS) (encS s) && likes (encS zeroS) (encS t))) = true := by
  rw [likeS _ _ (by rw [hs]; rfl), likeS _ _ (by rw [ht]; rfl)]; rfl
theorem allD_map : ∀ (l : List D), Sy.allD (l.map AV.d) = some l
  | [] => rfl
  | x :: l => by show (match Sy.allD (l.map AV.d) with | some l => some (x :: l) | none => none) = _; rw [allD_map l]
theorem ld_sec {ty : Ty} (ha : ty.kd.agg = true) (hz : ty.size = 32) {s : List UInt8} (hs : s.length = 32) : ldA ty 0 ((encS s).map AV.d) = .dg 32 (encS s) := by
  unfold ldA
  rw [ha, cond_true, hz, List.drop_zero, List.take_of_length_le (by rw [List.length_map, encS_len, hs]; exact Nat.le_refl _)]
  unfold mkAg
  rw [allD_map]
theorem ld_byte {ty : Ty} (ha : ty.kd.agg = false) {s : List UInt8} {k : Nat} {b : UInt8} (hb : s[k]? = some b) : ldA ty k ((encS s).map AV.d) = .d (.it .u8 b.toNat) := by
  unfold ldA
  rw [ha, cond_false, List.getD_eq_getElem?_getD, List.getElem?_map, encS, List.getElem?_map, hb]; rfl
theorem fits_ok (a n : Int) : FnC Tryz.prog 135 [.d (.it .i64 a), .d (.it .i64 n)] (.d (.bl (decide (0 ≤ a ∧ a ≤ 32 ∧ 0 ≤ n ∧ n ≤ 32 - a)))) := by
  refine FnC.intro ti_ok Tryz.func135 rfl Tryz.ntmps135 Tryz.call135 rfl (Nat.le_of_ble_eq_true rfl) rfl ?_
  by_cases h0 : 0 ≤ a ∧ a ≤ 32
  all_goals (repeat' ((conv=>whnf);first|with_reducible refine gA ?_|(with_reducible first|refine gB ?_|refine gZ (fun x hx hu=>?_)|refine gY (fun x hx=>?_)|refine gE ?_|refine Both.mk ?_ ?_|refine gS (fun h=>?_) (fun h=>?_)|refine Spl.nt ?_|refine Spl.mk (fun h=>?_) (fun h=>?_))))
  all_goals refine bl_eq ?_
  all_goals first | (rw [eq_comm]; exact decide_eq_false (by omega)) | (rw [Bool.eq_iff_iff]; simp; omega)
end Go.Proofs.YtajeadkdacgldaaGreatDoor

/- Entries: may they be? Conditions: none. -/
namespace Go.Proofs.YtajeadkdacgldaaGreatDoor
open Go.Sy
set_option maxRecDepth 100000
set_option linter.all false
structure Ent where
  u : Bool
  p : Int
  n : List UInt8
  t : Int
deriving DecidableEq
def RE (x : Ent) : Prop := x.u = false ∧ x.p = 0 ∧ x.n = [] ∧ x.t = 0 ∨ x.u = true ∧ 0 ≤ x.p ∧ x.p < 16 ∧ 1 ≤ x.t ∧ x.t < 16 ∧ nameB x.n = true
instance (x : Ent) : Decidable (RE x) := by unfold RE; infer_instance
end Go.Proofs.YtajeadkdacgldaaGreatDoor

/- Entries as sectors. Conditions: none. -/
namespace Go.Proofs.YtajeadkdacgldaaGreatDoor
open Go.Sy
set_option maxRecDepth 100000
set_option linter.all false
def by8e (n : Int) : UInt8 := UInt8.ofNat n.toNat
/-- The sector of an entry. -/
def entS (x : Ent) : List UInt8 := if x.u = true then [1, by8e x.p, by8e x.t, by8e x.n.length, 0, 0, 0, 0, 0, 0, 0, 0, 0, 0, 0, 0] ++ x.n ++ List.replicate (16 - x.n.length) 0 else zeroS
theorem st_all (l : List AV) : l = [] ++ l ++ [] := by simp
end Go.Proofs.YtajeadkdacgldaaGreatDoor

/- Entries as sectors, by the document's answer. Conditions: none. -/
namespace Go.Proofs.YtajeadkdacgldaaGreatDoor
open Go.Sy
set_option maxRecDepth 100000
set_option linter.all false
end Go.Proofs.YtajeadkdacgldaaGreatDoor

/- Some bytes of a sector. Conditions: none. -/
namespace Go.Proofs.YtajeadkdacgldaaGreatDoor
open Go.Sy
set_option maxRecDepth 100000
set_option linter.all false
end Go.Proofs.YtajeadkdacgldaaGreatDoor

/- Values, and what is done to them: plain parts. Conditions: none. -/
namespace Go.Proofs.YtajeadkdacgldaaGreatDoor
open Go.Sy
set_option maxRecDepth 100000
set_option linter.all false
structure Vl where
  k : Int
  n : Int
  s : List UInt8
deriving DecidableEq
def encVl (v : Vl) : List D := [.it .i64 v.k, .it .i64 v.n, .st v.s]
def vl0 : Vl := ⟨0, 0, []⟩
def intV (n : Int) : Vl := ⟨1, n, []⟩
def textV (s : List UInt8) : Vl := ⟨2, 0, s⟩
def boolV (b : Bool) : Vl := ⟨3, if b then 1 else 0, []⟩
def in64 (n : Int) : Int := max (-1000000000000) (min n 1000000000000)
def add64 (a b : Int) : Int := in64 (in64 a + in64 b)
def sub64 (a b : Int) : Int := in64 (in64 a - in64 b)
/-- An operation on two values. -/
def opV (op : Int) (a b : Vl) : Vl × Int :=
  if op < 9 ∨ 12 < op then (vl0, 1) else
  if a.k ≠ b.k ∨ a.k < 1 ∨ 3 < a.k ∨ (op ≠ 11 ∧ a.k = 3) ∨ (op = 10 ∧ a.k = 2) then (vl0, 11) else
  if op = 9 then (if a.k = 1 then (intV (add64 a.n b.n), 0) else if 128 < a.s.length + b.s.length then (vl0, 14) else (textV (a.s ++ b.s), 0)) else
  if op = 10 then (intV (sub64 a.n b.n), 0) else
  if op = 11 then (boolV (if a.k = 2 then decide (a.s = b.s) else decide (a.n = b.n)), 0) else
  (boolV (if a.k = 2 then Op.bytesLess a.s b.s else decide (a.n < b.n)), 0)
def tupV (r : Vl × Int) : AV := .tup [.dg 3 (encVl r.1), .d (.it .i64 r.2)]
/-- A name and its value. -/
structure Vr where
  nm : List UInt8
  v : Vl
deriving DecidableEq
def encVr (x : Vr) : List D := .st x.nm :: encVl x.v
/-- A variable is set. -/
def setV : List Vr → List UInt8 → Vl → List Vr
  | [], nm, v => [⟨nm, v⟩]
  | x :: t, nm, v => if x.nm = nm then ⟨nm, v⟩ :: t else x :: setV t nm v
end Go.Proofs.YtajeadkdacgldaaGreatDoor
