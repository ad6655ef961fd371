/- Contracts of the functions that the law reaches, and the law. Conditions: none. -/
import Derived.Test.YtkcpcjhjemedpaaGreatDoorProg
import Derived.Test.YtkcpcjhjemedpaaGreatDoorSD
import Derived.KernelRfl
import Derived.Laws.Externs
import Derived.Shelf.Strings.Builder1
import Derived.Shelf.Strings.Builder2
import Derived.Shelf.Strings.OnBuilder
import Derived.Shelf.Small.Utf8
import Derived.Shelf.Small.Strs
import Derived.Shelf.Small.Wraps
import Derived.Shelf.Strings.Search1
import Derived.Shelf.Strings.Search2
import Derived.Shelf.Strings.Search3
import Derived.Shelf.Strings.Count
import Derived.Shelf.LaysM
import Derived.Shelf.Strings.Shaped
import Derived.Shelf.Strings.Prefix
import Derived.Shelf.Strings.Runes
import Derived.Shelf.Strings.AsciiSet
import Derived.Shelf.Unicode.DecodeSlow
set_option linter.all false
/- The types of the seat, as the Sym layer reads them. Conditions: none. -/
namespace Go.Proofs.YtkcpcjhjemedpaaGreatDoor
open Go.Sy
set_option maxRecDepth 100000
def tyL : List (Nat × Ty) := [
  (0, { kd := .other, size := 1, bytes := 0, zero := [], cmp := .none, pl := [] }),
  (1, { kd := .func, size := 1, bytes := 8, zero := [.ot .nilFunc], cmp := .none, pl := [] }),
  (2, { kd := .int .i64, size := 1, bytes := 8, zero := [.it .i64 0], cmp := .some [.it .i64 0], pl := [] }),
  (3, { kd := .int .i64, size := 1, bytes := 8, zero := [.it .i64 0], cmp := .some [.it .i64 0], pl := [] }),
  (4, { kd := .bool, size := 1, bytes := 1, zero := [.bl Bool.false], cmp := .some [.bl Bool.false], pl := [] }),
  (5, { kd := .int .u8, size := 1, bytes := 1, zero := [.it .u8 0], cmp := .some [.it .u8 0], pl := [] }),
  (6, { kd := .int .u8, size := 1, bytes := 1, zero := [.it .u8 0], cmp := .some [.it .u8 0], pl := [] }),
  (7, { kd := .struct [(0, 2), (1, 3), (2, 4), (3, 6)], size := 4, bytes := 24, zero := [.it .i64 0, .it .i64 0, .bl Bool.false, .it .u8 0], cmp := .some [.it .i64 0, .it .i64 0, .bl Bool.false, .it .u8 0], pl := [(0, 1), (1, 1), (2, 1), (3, 1)] }),
  (8, { kd := .struct [(0, 2), (1, 3), (2, 4), (3, 6)], size := 4, bytes := 24, zero := [.it .i64 0, .it .i64 0, .bl Bool.false, .it .u8 0], cmp := .some [.it .i64 0, .it .i64 0, .bl Bool.false, .it .u8 0], pl := [(0, 1), (1, 1), (2, 1), (3, 1)] }),
  (9, { kd := .string, size := 1, bytes := 16, zero := [.st []], cmp := .some [.st []], pl := [] }),
  (10, { kd := .string, size := 1, bytes := 16, zero := [.st []], cmp := .some [.st []], pl := [] }),
  (11, { kd := .string, size := 1, bytes := 16, zero := [.st []], cmp := .some [.st []], pl := [] }),
  (12, { kd := .int .u64, size := 1, bytes := 8, zero := [.it .u64 0], cmp := .some [.it .u64 0], pl := [] }),
  (13, { kd := .struct [(0, 9), (1, 12)], size := 2, bytes := 24, zero := [.st [], .it .u64 0], cmp := .none, pl := [(0, 1), (1, 1)] }),
  (14, { kd := .struct [(0, 9), (1, 12)], size := 2, bytes := 24, zero := [.st [], .it .u64 0], cmp := .none, pl := [(0, 1), (1, 1)] }),
  (15, { kd := .ptr 128, size := 1, bytes := 8, zero := [.ot (.pointer .none)], cmp := .none, pl := [] }),
  (16, { kd := .ptr 131, size := 1, bytes := 8, zero := [.ot (.pointer .none)], cmp := .none, pl := [] }),
  (17, { kd := .ptr 139, size := 1, bytes := 8, zero := [.ot (.pointer .none)], cmp := .none, pl := [] }),
  (18, { kd := .struct [(0, 17)], size := 1, bytes := 8, zero := [.ot (.pointer .none)], cmp := .none, pl := [(0, 1)] }),
  (19, { kd := .struct [(0, 17)], size := 1, bytes := 8, zero := [.ot (.pointer .none)], cmp := .none, pl := [(0, 1)] }),
  (20, { kd := .other, size := 1, bytes := 16, zero := [.ot .nilIface], cmp := .none, pl := [] }),
  (21, { kd := .int .i32, size := 1, bytes := 4, zero := [.it .i32 0], cmp := .some [.it .i32 0], pl := [] }),
  (22, { kd := .slice 37, size := 1, bytes := 24, zero := [.fs 3 []], cmp := .none, pl := [] }),
  (23, { kd := .func, size := 1, bytes := 8, zero := [.ot .nilFunc], cmp := .none, pl := [] }),
  (24, { kd := .func, size := 1, bytes := 8, zero := [.ot .nilFunc], cmp := .none, pl := [] }),
  (25, { kd := .slice 43, size := 1, bytes := 24, zero := [.fs 7 []], cmp := .none, pl := [] }),
  (26, { kd := .other, size := 1, bytes := 0, zero := [], cmp := .none, pl := [] }),
  (27, { kd := .func, size := 1, bytes := 8, zero := [.ot .nilFunc], cmp := .none, pl := [] }),
  (28, { kd := .slice 46, size := 1, bytes := 24, zero := [.fs 7 []], cmp := .none, pl := [] }),
  (29, { kd := .other, size := 1, bytes := 0, zero := [], cmp := .none, pl := [] }),
  (30, { kd := .func, size := 1, bytes := 8, zero := [.ot .nilFunc], cmp := .none, pl := [] }),
  (31, { kd := .func, size := 1, bytes := 8, zero := [.ot .nilFunc], cmp := .none, pl := [] }),
  (32, { kd := .func, size := 1, bytes := 8, zero := [.ot .nilFunc], cmp := .none, pl := [] }),
  (33, { kd := .func, size := 1, bytes := 8, zero := [.ot .nilFunc], cmp := .none, pl := [] }),
  (34, { kd := .func, size := 1, bytes := 8, zero := [.ot .nilFunc], cmp := .none, pl := [] }),
  (35, { kd := .func, size := 1, bytes := 8, zero := [.ot .nilFunc], cmp := .none, pl := [] }),
  (36, { kd := .struct [(0, 9), (1, 4), (2, 9)], size := 3, bytes := 40, zero := [.st [], .bl Bool.false, .st []], cmp := .some [.st [], .bl Bool.false, .st []], pl := [(0, 1), (1, 1), (2, 1)] }),
  (37, { kd := .struct [(0, 9), (1, 4), (2, 9)], size := 3, bytes := 40, zero := [.st [], .bl Bool.false, .st []], cmp := .some [.st [], .bl Bool.false, .st []], pl := [(0, 1), (1, 1), (2, 1)] }),
  (38, { kd := .other, size := 1, bytes := 0, zero := [], cmp := .none, pl := [] }),
  (39, { kd := .func, size := 1, bytes := 8, zero := [.ot .nilFunc], cmp := .none, pl := [] }),
  (40, { kd := .func, size := 1, bytes := 8, zero := [.ot .nilFunc], cmp := .none, pl := [] }),
  (41, { kd := .func, size := 1, bytes := 8, zero := [.ot .nilFunc], cmp := .none, pl := [] }),
  (42, { kd := .struct [(0, 3), (1, 37), (4, 37)], size := 7, bytes := 88, zero := [.it .i64 0, .st [], .bl Bool.false, .st [], .st [], .bl Bool.false, .st []], cmp := .some [.it .i64 0, .st [], .bl Bool.false, .st [], .st [], .bl Bool.false, .st []], pl := [(0, 1), (1, 3), (4, 3)] }),
  (43, { kd := .struct [(0, 3), (1, 37), (4, 37)], size := 7, bytes := 88, zero := [.it .i64 0, .st [], .bl Bool.false, .st [], .st [], .bl Bool.false, .st []], cmp := .some [.it .i64 0, .st [], .bl Bool.false, .st [], .st [], .bl Bool.false, .st []], pl := [(0, 1), (1, 3), (4, 3)] }),
  (44, { kd := .func, size := 1, bytes := 8, zero := [.ot .nilFunc], cmp := .none, pl := [] }),
  (45, { kd := .func, size := 1, bytes := 8, zero := [.ot .nilFunc], cmp := .none, pl := [] }),
  (46, { kd := .struct [(0, 3), (1, 37), (4, 37)], size := 7, bytes := 88, zero := [.it .i64 0, .st [], .bl Bool.false, .st [], .st [], .bl Bool.false, .st []], cmp := .some [.it .i64 0, .st [], .bl Bool.false, .st [], .st [], .bl Bool.false, .st []], pl := [(0, 1), (1, 3), (4, 3)] }),
  (47, { kd := .func, size := 1, bytes := 8, zero := [.ot .nilFunc], cmp := .none, pl := [] }),
  (48, { kd := .func, size := 1, bytes := 8, zero := [.ot .nilFunc], cmp := .none, pl := [] }),
  (49, { kd := .ptr 52, size := 1, bytes := 8, zero := [.ot (.pointer .none)], cmp := .none, pl := [] }),
  (50, { kd := .slice 5, size := 1, bytes := 24, zero := [.fs 1 []], cmp := .none, pl := [] }),
  (51, { kd := .struct [(0, 49), (1, 50)], size := 2, bytes := 32, zero := [.ot (.pointer .none), .fs 1 []], cmp := .none, pl := [(0, 1), (1, 1)] }),
  (52, { kd := .struct [(0, 49), (1, 50)], size := 2, bytes := 32, zero := [.ot (.pointer .none), .fs 1 []], cmp := .none, pl := [(0, 1), (1, 1)] }),
  (53, { kd := .slice 9, size := 1, bytes := 24, zero := [.fs 1 []], cmp := .none, pl := [] }),
  (54, { kd := .other, size := 1, bytes := 16, zero := [.ot .nilIface], cmp := .none, pl := [] }),
  (55, { kd := .other, size := 1, bytes := 16, zero := [.ot .nilIface], cmp := .none, pl := [] }),
  (56, { kd := .other, size := 1, bytes := 0, zero := [], cmp := .none, pl := [] }),
  (57, { kd := .func, size := 1, bytes := 8, zero := [.ot .nilFunc], cmp := .none, pl := [] }),
  (58, { kd := .func, size := 1, bytes := 8, zero := [.ot .nilFunc], cmp := .none, pl := [] }),
  (59, { kd := .func, size := 1, bytes := 8, zero := [.ot .nilFunc], cmp := .none, pl := [] }),
  (60, { kd := .func, size := 1, bytes := 8, zero := [.ot .nilFunc], cmp := .none, pl := [] }),
  (61, { kd := .slice 37, size := 1, bytes := 24, zero := [.fs 3 []], cmp := .none, pl := [] }),
  (62, { kd := .func, size := 1, bytes := 8, zero := [.ot .nilFunc], cmp := .none, pl := [] }),
  (63, { kd := .func, size := 1, bytes := 8, zero := [.ot .nilFunc], cmp := .none, pl := [] }),
  (64, { kd := .func, size := 1, bytes := 8, zero := [.ot .nilFunc], cmp := .none, pl := [] }),
  (65, { kd := .func, size := 1, bytes := 8, zero := [.ot .nilFunc], cmp := .none, pl := [] }),
  (66, { kd := .func, size := 1, bytes := 8, zero := [.ot .nilFunc], cmp := .none, pl := [] }),
  (67, { kd := .int .i64, size := 1, bytes := 8, zero := [.it .i64 0], cmp := .some [.it .i64 0], pl := [] }),
  (68, { kd := .other, size := 1, bytes := 0, zero := [], cmp := .none, pl := [] }),
  (69, { kd := .func, size := 1, bytes := 8, zero := [.ot .nilFunc], cmp := .none, pl := [] }),
  (70, { kd := .func, size := 1, bytes := 8, zero := [.ot .nilFunc], cmp := .none, pl := [] }),
  (71, { kd := .other, size := 1, bytes := 0, zero := [], cmp := .none, pl := [] }),
  (72, { kd := .func, size := 1, bytes := 8, zero := [.ot .nilFunc], cmp := .none, pl := [] }),
  (73, { kd := .other, size := 1, bytes := 0, zero := [], cmp := .none, pl := [] }),
  (74, { kd := .func, size := 1, bytes := 8, zero := [.ot .nilFunc], cmp := .none, pl := [] }),
  (75, { kd := .func, size := 1, bytes := 8, zero := [.ot .nilFunc], cmp := .none, pl := [] }),
  (76, { kd := .ptr 5, size := 1, bytes := 8, zero := [.ot (.pointer .none)], cmp := .none, pl := [] }),
  (77, { kd := .ptr 61, size := 1, bytes := 8, zero := [.ot (.pointer .none)], cmp := .none, pl := [] }),
  (78, { kd := .func, size := 1, bytes := 8, zero := [.ot .nilFunc], cmp := .none, pl := [] }),
  (79, { kd := .func, size := 1, bytes := 8, zero := [.ot .nilFunc], cmp := .none, pl := [] }),
  (80, { kd := .func, size := 1, bytes := 8, zero := [.ot .nilFunc], cmp := .none, pl := [] }),
  (81, { kd := .func, size := 1, bytes := 8, zero := [.ot .nilFunc], cmp := .none, pl := [] }),
  (82, { kd := .func, size := 1, bytes := 8, zero := [.ot .nilFunc], cmp := .none, pl := [] }),
  (83, { kd := .func, size := 1, bytes := 8, zero := [.ot .nilFunc], cmp := .none, pl := [] }),
  (84, { kd := .func, size := 1, bytes := 8, zero := [.ot .nilFunc], cmp := .none, pl := [] }),
  (85, { kd := .usafe, size := 1, bytes := 8, zero := [.ot (.pointer .none)], cmp := .none, pl := [] }),
  (86, { kd := .func, size := 1, bytes := 8, zero := [.ot .nilFunc], cmp := .none, pl := [] }),
  (87, { kd := .func, size := 1, bytes := 8, zero := [.ot .nilFunc], cmp := .none, pl := [] }),
  (88, { kd := .other, size := 1, bytes := 0, zero := [], cmp := .none, pl := [] }),
  (89, { kd := .func, size := 1, bytes := 8, zero := [.ot .nilFunc], cmp := .none, pl := [] }),
  (90, { kd := .func, size := 1, bytes := 8, zero := [.ot .nilFunc], cmp := .none, pl := [] }),
  (91, { kd := .func, size := 1, bytes := 8, zero := [.ot .nilFunc], cmp := .none, pl := [] }),
  (92, { kd := .func, size := 1, bytes := 8, zero := [.ot .nilFunc], cmp := .none, pl := [] }),
  (93, { kd := .func, size := 1, bytes := 8, zero := [.ot .nilFunc], cmp := .none, pl := [] }),
  (94, { kd := .func, size := 1, bytes := 8, zero := [.ot .nilFunc], cmp := .none, pl := [] }),
  (95, { kd := .func, size := 1, bytes := 8, zero := [.ot .nilFunc], cmp := .none, pl := [] }),
  (96, { kd := .func, size := 1, bytes := 8, zero := [.ot .nilFunc], cmp := .none, pl := [] }),
  (97, { kd := .int .u64, size := 1, bytes := 8, zero := [.it .u64 0], cmp := .some [.it .u64 0], pl := [] }),
  (98, { kd := .func, size := 1, bytes := 8, zero := [.ot .nilFunc], cmp := .none, pl := [] }),
  (99, { kd := .func, size := 1, bytes := 8, zero := [.ot .nilFunc], cmp := .none, pl := [] }),
  (100, { kd := .func, size := 1, bytes := 8, zero := [.ot .nilFunc], cmp := .none, pl := [] }),
  (101, { kd := .func, size := 1, bytes := 8, zero := [.ot .nilFunc], cmp := .none, pl := [] }),
  (102, { kd := .func, size := 1, bytes := 8, zero := [.ot .nilFunc], cmp := .none, pl := [] }),
  (103, { kd := .func, size := 1, bytes := 8, zero := [.ot .nilFunc], cmp := .none, pl := [] }),
  (104, { kd := .arr 256 4, size := 256, bytes := 256, zero := [.bl Bool.false, .bl Bool.false, .bl Bool.false, .bl Bool.false, .bl Bool.false, .bl Bool.false, .bl Bool.false, .bl Bool.false, .bl Bool.false, .bl Bool.false, .bl Bool.false, .bl Bool.false, .bl Bool.false, .bl Bool.false, .bl Bool.false, .bl Bool.false, .bl Bool.false, .bl Bool.false, .bl Bool.false, .bl Bool.false, .bl Bool.false, .bl Bool.false, .bl Bool.false, .bl Bool.false, .bl Bool.false, .bl Bool.false, .bl Bool.false, .bl Bool.false, .bl Bool.false, .bl Bool.false, .bl Bool.false, .bl Bool.false, .bl Bool.false, .bl Bool.false, .bl Bool.false, .bl Bool.false, .bl Bool.false, .bl Bool.false, .bl Bool.false, .bl Bool.false, .bl Bool.false, .bl Bool.false, .bl Bool.false, .bl Bool.false, .bl Bool.false, .bl Bool.false, .bl Bool.false, .bl Bool.false, .bl Bool.false, .bl Bool.false, .bl Bool.false, .bl Bool.false, .bl Bool.false, .bl Bool.false, .bl Bool.false, .bl Bool.false, .bl Bool.false, .bl Bool.false, .bl Bool.false, .bl Bool.false, .bl Bool.false, .bl Bool.false, .bl Bool.false, .bl Bool.false, .bl Bool.false, .bl Bool.false, .bl Bool.false, .bl Bool.false, .bl Bool.false, .bl Bool.false, .bl Bool.false, .bl Bool.false, .bl Bool.false, .bl Bool.false, .bl Bool.false, .bl Bool.false, .bl Bool.false, .bl Bool.false, .bl Bool.false, .bl Bool.false, .bl Bool.false, .bl Bool.false, .bl Bool.false, .bl Bool.false, .bl Bool.false, .bl Bool.false, .bl Bool.false, .bl Bool.false, .bl Bool.false, .bl Bool.false, .bl Bool.false, .bl Bool.false, .bl Bool.false, .bl Bool.false, .bl Bool.false, .bl Bool.false, .bl Bool.false, .bl Bool.false, .bl Bool.false, .bl Bool.false, .bl Bool.false, .bl Bool.false, .bl Bool.false, .bl Bool.false, .bl Bool.false, .bl Bool.false, .bl Bool.false, .bl Bool.false, .bl Bool.false, .bl Bool.false, .bl Bool.false, .bl Bool.false, .bl Bool.false, .bl Bool.false, .bl Bool.false, .bl Bool.false, .bl Bool.false, .bl Bool.false, .bl Bool.false, .bl Bool.false, .bl Bool.false, .bl Bool.false, .bl Bool.false, .bl Bool.false, .bl Bool.false, .bl Bool.false, .bl Bool.false, .bl Bool.false, .bl Bool.false, .bl Bool.false, .bl Bool.false, .bl Bool.false, .bl Bool.false, .bl Bool.false, .bl Bool.false, .bl Bool.false, .bl Bool.false, .bl Bool.false, .bl Bool.false, .bl Bool.false, .bl Bool.false, .bl Bool.false, .bl Bool.false, .bl Bool.false, .bl Bool.false, .bl Bool.false, .bl Bool.false, .bl Bool.false, .bl Bool.false, .bl Bool.false, .bl Bool.false, .bl Bool.false, .bl Bool.false, .bl Bool.false, .bl Bool.false, .bl Bool.false, .bl Bool.false, .bl Bool.false, .bl Bool.false, .bl Bool.false, .bl Bool.false, .bl Bool.false, .bl Bool.false, .bl Bool.false, .bl Bool.false, .bl Bool.false, .bl Bool.false, .bl Bool.false, .bl Bool.false, .bl Bool.false, .bl Bool.false, .bl Bool.false, .bl Bool.false, .bl Bool.false, .bl Bool.false, .bl Bool.false, .bl Bool.false, .bl Bool.false, .bl Bool.false, .bl Bool.false, .bl Bool.false, .bl Bool.false, .bl Bool.false, .bl Bool.false, .bl Bool.false, .bl Bool.false, .bl Bool.false, .bl Bool.false, .bl Bool.false, .bl Bool.false, .bl Bool.false, .bl Bool.false, .bl Bool.false, .bl Bool.false, .bl Bool.false, .bl Bool.false, .bl Bool.false, .bl Bool.false, .bl Bool.false, .bl Bool.false, .bl Bool.false, .bl Bool.false, .bl Bool.false, .bl Bool.false, .bl Bool.false, .bl Bool.false, .bl Bool.false, .bl Bool.false, .bl Bool.false, .bl Bool.false, .bl Bool.false, .bl Bool.false, .bl Bool.false, .bl Bool.false, .bl Bool.false, .bl Bool.false, .bl Bool.false, .bl Bool.false, .bl Bool.false, .bl Bool.false, .bl Bool.false, .bl Bool.false, .bl Bool.false, .bl Bool.false, .bl Bool.false, .bl Bool.false, .bl Bool.false, .bl Bool.false, .bl Bool.false, .bl Bool.false, .bl Bool.false, .bl Bool.false, .bl Bool.false, .bl Bool.false, .bl Bool.false, .bl Bool.false, .bl Bool.false, .bl Bool.false, .bl Bool.false, .bl Bool.false, .bl Bool.false, .bl Bool.false, .bl Bool.false, .bl Bool.false, .bl Bool.false, .bl Bool.false, .bl Bool.false, .bl Bool.false, .bl Bool.false, .bl Bool.false, .bl Bool.false, .bl Bool.false, .bl Bool.false, .bl Bool.false, .bl Bool.false, .bl Bool.false], cmp := .some [.bl Bool.false, .bl Bool.false, .bl Bool.false, .bl Bool.false, .bl Bool.false, .bl Bool.false, .bl Bool.false, .bl Bool.false, .bl Bool.false, .bl Bool.false, .bl Bool.false, .bl Bool.false, .bl Bool.false, .bl Bool.false, .bl Bool.false, .bl Bool.false, .bl Bool.false, .bl Bool.false, .bl Bool.false, .bl Bool.false, .bl Bool.false, .bl Bool.false, .bl Bool.false, .bl Bool.false, .bl Bool.false, .bl Bool.false, .bl Bool.false, .bl Bool.false, .bl Bool.false, .bl Bool.false, .bl Bool.false, .bl Bool.false, .bl Bool.false, .bl Bool.false, .bl Bool.false, .bl Bool.false, .bl Bool.false, .bl Bool.false, .bl Bool.false, .bl Bool.false, .bl Bool.false, .bl Bool.false, .bl Bool.false, .bl Bool.false, .bl Bool.false, .bl Bool.false, .bl Bool.false, .bl Bool.false, .bl Bool.false, .bl Bool.false, .bl Bool.false, .bl Bool.false, .bl Bool.false, .bl Bool.false, .bl Bool.false, .bl Bool.false, .bl Bool.false, .bl Bool.false, .bl Bool.false, .bl Bool.false, .bl Bool.false, .bl Bool.false, .bl Bool.false, .bl Bool.false, .bl Bool.false, .bl Bool.false, .bl Bool.false, .bl Bool.false, .bl Bool.false, .bl Bool.false, .bl Bool.false, .bl Bool.false, .bl Bool.false, .bl Bool.false, .bl Bool.false, .bl Bool.false, .bl Bool.false, .bl Bool.false, .bl Bool.false, .bl Bool.false, .bl Bool.false, .bl Bool.false, .bl Bool.false, .bl Bool.false, .bl Bool.false, .bl Bool.false, .bl Bool.false, .bl Bool.false, .bl Bool.false, .bl Bool.false, .bl Bool.false, .bl Bool.false, .bl Bool.false, .bl Bool.false, .bl Bool.false, .bl Bool.false, .bl Bool.false, .bl Bool.false, .bl Bool.false, .bl Bool.false, .bl Bool.false, .bl Bool.false, .bl Bool.false, .bl Bool.false, .bl Bool.false, .bl Bool.false, .bl Bool.false, .bl Bool.false, .bl Bool.false, .bl Bool.false, .bl Bool.false, .bl Bool.false, .bl Bool.false, .bl Bool.false, .bl Bool.false, .bl Bool.false, .bl Bool.false, .bl Bool.false, .bl Bool.false, .bl Bool.false, .bl Bool.false, .bl Bool.false, .bl Bool.false, .bl Bool.false, .bl Bool.false, .bl Bool.false, .bl Bool.false, .bl Bool.false, .bl Bool.false, .bl Bool.false, .bl Bool.false, .bl Bool.false, .bl Bool.false, .bl Bool.false, .bl Bool.false, .bl Bool.false, .bl Bool.false, .bl Bool.false, .bl Bool.false, .bl Bool.false, .bl Bool.false, .bl Bool.false, .bl Bool.false, .bl Bool.false, .bl Bool.false, .bl Bool.false, .bl Bool.false, .bl Bool.false, .bl Bool.false, .bl Bool.false, .bl Bool.false, .bl Bool.false, .bl Bool.false, .bl Bool.false, .bl Bool.false, .bl Bool.false, .bl Bool.false, .bl Bool.false, .bl Bool.false, .bl Bool.false, .bl Bool.false, .bl Bool.false, .bl Bool.false, .bl Bool.false, .bl Bool.false, .bl Bool.false, .bl Bool.false, .bl Bool.false, .bl Bool.false, .bl Bool.false, .bl Bool.false, .bl Bool.false, .bl Bool.false, .bl Bool.false, .bl Bool.false, .bl Bool.false, .bl Bool.false, .bl Bool.false, .bl Bool.false, .bl Bool.false, .bl Bool.false, .bl Bool.false, .bl Bool.false, .bl Bool.false, .bl Bool.false, .bl Bool.false, .bl Bool.false, .bl Bool.false, .bl Bool.false, .bl Bool.false, .bl Bool.false, .bl Bool.false, .bl Bool.false, .bl Bool.false, .bl Bool.false, .bl Bool.false, .bl Bool.false, .bl Bool.false, .bl Bool.false, .bl Bool.false, .bl Bool.false, .bl Bool.false, .bl Bool.false, .bl Bool.false, .bl Bool.false, .bl Bool.false, .bl Bool.false, .bl Bool.false, .bl Bool.false, .bl Bool.false, .bl Bool.false, .bl Bool.false, .bl Bool.false, .bl Bool.false, .bl Bool.false, .bl Bool.false, .bl Bool.false, .bl Bool.false, .bl Bool.false, .bl Bool.false, .bl Bool.false, .bl Bool.false, .bl Bool.false, .bl Bool.false, .bl Bool.false, .bl Bool.false, .bl Bool.false, .bl Bool.false, .bl Bool.false, .bl Bool.false, .bl Bool.false, .bl Bool.false, .bl Bool.false, .bl Bool.false, .bl Bool.false, .bl Bool.false, .bl Bool.false, .bl Bool.false, .bl Bool.false, .bl Bool.false, .bl Bool.false, .bl Bool.false, .bl Bool.false, .bl Bool.false, .bl Bool.false, .bl Bool.false, .bl Bool.false, .bl Bool.false, .bl Bool.false, .bl Bool.false, .bl Bool.false, .bl Bool.false, .bl Bool.false, .bl Bool.false, .bl Bool.false, .bl Bool.false], pl := [] }),
  (105, { kd := .arr 256 4, size := 256, bytes := 256, zero := [.bl Bool.false, .bl Bool.false, .bl Bool.false, .bl Bool.false, .bl Bool.false, .bl Bool.false, .bl Bool.false, .bl Bool.false, .bl Bool.false, .bl Bool.false, .bl Bool.false, .bl Bool.false, .bl Bool.false, .bl Bool.false, .bl Bool.false, .bl Bool.false, .bl Bool.false, .bl Bool.false, .bl Bool.false, .bl Bool.false, .bl Bool.false, .bl Bool.false, .bl Bool.false, .bl Bool.false, .bl Bool.false, .bl Bool.false, .bl Bool.false, .bl Bool.false, .bl Bool.false, .bl Bool.false, .bl Bool.false, .bl Bool.false, .bl Bool.false, .bl Bool.false, .bl Bool.false, .bl Bool.false, .bl Bool.false, .bl Bool.false, .bl Bool.false, .bl Bool.false, .bl Bool.false, .bl Bool.false, .bl Bool.false, .bl Bool.false, .bl Bool.false, .bl Bool.false, .bl Bool.false, .bl Bool.false, .bl Bool.false, .bl Bool.false, .bl Bool.false, .bl Bool.false, .bl Bool.false, .bl Bool.false, .bl Bool.false, .bl Bool.false, .bl Bool.false, .bl Bool.false, .bl Bool.false, .bl Bool.false, .bl Bool.false, .bl Bool.false, .bl Bool.false, .bl Bool.false, .bl Bool.false, .bl Bool.false, .bl Bool.false, .bl Bool.false, .bl Bool.false, .bl Bool.false, .bl Bool.false, .bl Bool.false, .bl Bool.false, .bl Bool.false, .bl Bool.false, .bl Bool.false, .bl Bool.false, .bl Bool.false, .bl Bool.false, .bl Bool.false, .bl Bool.false, .bl Bool.false, .bl Bool.false, .bl Bool.false, .bl Bool.false, .bl Bool.false, .bl Bool.false, .bl Bool.false, .bl Bool.false, .bl Bool.false, .bl Bool.false, .bl Bool.false, .bl Bool.false, .bl Bool.false, .bl Bool.false, .bl Bool.false, .bl Bool.false, .bl Bool.false, .bl Bool.false, .bl Bool.false, .bl Bool.false, .bl Bool.false, .bl Bool.false, .bl Bool.false, .bl Bool.false, .bl Bool.false, .bl Bool.false, .bl Bool.false, .bl Bool.false, .bl Bool.false, .bl Bool.false, .bl Bool.false, .bl Bool.false, .bl Bool.false, .bl Bool.false, .bl Bool.false, .bl Bool.false, .bl Bool.false, .bl Bool.false, .bl Bool.false, .bl Bool.false, .bl Bool.false, .bl Bool.false, .bl Bool.false, .bl Bool.false, .bl Bool.false, .bl Bool.false, .bl Bool.false, .bl Bool.false, .bl Bool.false, .bl Bool.false, .bl Bool.false, .bl Bool.false, .bl Bool.false, .bl Bool.false, .bl Bool.false, .bl Bool.false, .bl Bool.false, .bl Bool.false, .bl Bool.false, .bl Bool.false, .bl Bool.false, .bl Bool.false, .bl Bool.false, .bl Bool.false, .bl Bool.false, .bl Bool.false, .bl Bool.false, .bl Bool.false, .bl Bool.false, .bl Bool.false, .bl Bool.false, .bl Bool.false, .bl Bool.false, .bl Bool.false, .bl Bool.false, .bl Bool.false, .bl Bool.false, .bl Bool.false, .bl Bool.false, .bl Bool.false, .bl Bool.false, .bl Bool.false, .bl Bool.false, .bl Bool.false, .bl Bool.false, .bl Bool.false, .bl Bool.false, .bl Bool.false, .bl Bool.false, .bl Bool.false, .bl Bool.false, .bl Bool.false, .bl Bool.false, .bl Bool.false, .bl Bool.false, .bl Bool.false, .bl Bool.false, .bl Bool.false, .bl Bool.false, .bl Bool.false, .bl Bool.false, .bl Bool.false, .bl Bool.false, .bl Bool.false, .bl Bool.false, .bl Bool.false, .bl Bool.false, .bl Bool.false, .bl Bool.false, .bl Bool.false, .bl Bool.false, .bl Bool.false, .bl Bool.false, .bl Bool.false, .bl Bool.false, .bl Bool.false, .bl Bool.false, .bl Bool.false, .bl Bool.false, .bl Bool.false, .bl Bool.false, .bl Bool.false, .bl Bool.false, .bl Bool.false, .bl Bool.false, .bl Bool.false, .bl Bool.false, .bl Bool.false, .bl Bool.false, .bl Bool.false, .bl Bool.false, .bl Bool.false, .bl Bool.false, .bl Bool.false, .bl Bool.false, .bl Bool.false, .bl Bool.false, .bl Bool.false, .bl Bool.false, .bl Bool.false, .bl Bool.false, .bl Bool.false, .bl Bool.false, .bl Bool.false, .bl Bool.false, .bl Bool.false, .bl Bool.false, .bl Bool.false, .bl Bool.false, .bl Bool.false, .bl Bool.false, .bl Bool.false, .bl Bool.false, .bl Bool.false, .bl Bool.false, .bl Bool.false, .bl Bool.false, .bl Bool.false, .bl Bool.false, .bl Bool.false, .bl Bool.false, .bl Bool.false, .bl Bool.false, .bl Bool.false, .bl Bool.false, .bl Bool.false, .bl Bool.false, .bl Bool.false, .bl Bool.false, .bl Bool.false, .bl Bool.false, .bl Bool.false, .bl Bool.false, .bl Bool.false, .bl Bool.false], cmp := .some [.bl Bool.false, .bl Bool.false, .bl Bool.false, .bl Bool.false, .bl Bool.false, .bl Bool.false, .bl Bool.false, .bl Bool.false, .bl Bool.false, .bl Bool.false, .bl Bool.false, .bl Bool.false, .bl Bool.false, .bl Bool.false, .bl Bool.false, .bl Bool.false, .bl Bool.false, .bl Bool.false, .bl Bool.false, .bl Bool.false, .bl Bool.false, .bl Bool.false, .bl Bool.false, .bl Bool.false, .bl Bool.false, .bl Bool.false, .bl Bool.false, .bl Bool.false, .bl Bool.false, .bl Bool.false, .bl Bool.false, .bl Bool.false, .bl Bool.false, .bl Bool.false, .bl Bool.false, .bl Bool.false, .bl Bool.false, .bl Bool.false, .bl Bool.false, .bl Bool.false, .bl Bool.false, .bl Bool.false, .bl Bool.false, .bl Bool.false, .bl Bool.false, .bl Bool.false, .bl Bool.false, .bl Bool.false, .bl Bool.false, .bl Bool.false, .bl Bool.false, .bl Bool.false, .bl Bool.false, .bl Bool.false, .bl Bool.false, .bl Bool.false, .bl Bool.false, .bl Bool.false, .bl Bool.false, .bl Bool.false, .bl Bool.false, .bl Bool.false, .bl Bool.false, .bl Bool.false, .bl Bool.false, .bl Bool.false, .bl Bool.false, .bl Bool.false, .bl Bool.false, .bl Bool.false, .bl Bool.false, .bl Bool.false, .bl Bool.false, .bl Bool.false, .bl Bool.false, .bl Bool.false, .bl Bool.false, .bl Bool.false, .bl Bool.false, .bl Bool.false, .bl Bool.false, .bl Bool.false, .bl Bool.false, .bl Bool.false, .bl Bool.false, .bl Bool.false, .bl Bool.false, .bl Bool.false, .bl Bool.false, .bl Bool.false, .bl Bool.false, .bl Bool.false, .bl Bool.false, .bl Bool.false, .bl Bool.false, .bl Bool.false, .bl Bool.false, .bl Bool.false, .bl Bool.false, .bl Bool.false, .bl Bool.false, .bl Bool.false, .bl Bool.false, .bl Bool.false, .bl Bool.false, .bl Bool.false, .bl Bool.false, .bl Bool.false, .bl Bool.false, .bl Bool.false, .bl Bool.false, .bl Bool.false, .bl Bool.false, .bl Bool.false, .bl Bool.false, .bl Bool.false, .bl Bool.false, .bl Bool.false, .bl Bool.false, .bl Bool.false, .bl Bool.false, .bl Bool.false, .bl Bool.false, .bl Bool.false, .bl Bool.false, .bl Bool.false, .bl Bool.false, .bl Bool.false, .bl Bool.false, .bl Bool.false, .bl Bool.false, .bl Bool.false, .bl Bool.false, .bl Bool.false, .bl Bool.false, .bl Bool.false, .bl Bool.false, .bl Bool.false, .bl Bool.false, .bl Bool.false, .bl Bool.false, .bl Bool.false, .bl Bool.false, .bl Bool.false, .bl Bool.false, .bl Bool.false, .bl Bool.false, .bl Bool.false, .bl Bool.false, .bl Bool.false, .bl Bool.false, .bl Bool.false, .bl Bool.false, .bl Bool.false, .bl Bool.false, .bl Bool.false, .bl Bool.false, .bl Bool.false, .bl Bool.false, .bl Bool.false, .bl Bool.false, .bl Bool.false, .bl Bool.false, .bl Bool.false, .bl Bool.false, .bl Bool.false, .bl Bool.false, .bl Bool.false, .bl Bool.false, .bl Bool.false, .bl Bool.false, .bl Bool.false, .bl Bool.false, .bl Bool.false, .bl Bool.false, .bl Bool.false, .bl Bool.false, .bl Bool.false, .bl Bool.false, .bl Bool.false, .bl Bool.false, .bl Bool.false, .bl Bool.false, .bl Bool.false, .bl Bool.false, .bl Bool.false, .bl Bool.false, .bl Bool.false, .bl Bool.false, .bl Bool.false, .bl Bool.false, .bl Bool.false, .bl Bool.false, .bl Bool.false, .bl Bool.false, .bl Bool.false, .bl Bool.false, .bl Bool.false, .bl Bool.false, .bl Bool.false, .bl Bool.false, .bl Bool.false, .bl Bool.false, .bl Bool.false, .bl Bool.false, .bl Bool.false, .bl Bool.false, .bl Bool.false, .bl Bool.false, .bl Bool.false, .bl Bool.false, .bl Bool.false, .bl Bool.false, .bl Bool.false, .bl Bool.false, .bl Bool.false, .bl Bool.false, .bl Bool.false, .bl Bool.false, .bl Bool.false, .bl Bool.false, .bl Bool.false, .bl Bool.false, .bl Bool.false, .bl Bool.false, .bl Bool.false, .bl Bool.false, .bl Bool.false, .bl Bool.false, .bl Bool.false, .bl Bool.false, .bl Bool.false, .bl Bool.false, .bl Bool.false, .bl Bool.false, .bl Bool.false, .bl Bool.false, .bl Bool.false, .bl Bool.false, .bl Bool.false, .bl Bool.false, .bl Bool.false, .bl Bool.false, .bl Bool.false, .bl Bool.false, .bl Bool.false, .bl Bool.false, .bl Bool.false, .bl Bool.false, .bl Bool.false, .bl Bool.false, .bl Bool.false, .bl Bool.false, .bl Bool.false, .bl Bool.false, .bl Bool.false], pl := [] }),
  (106, { kd := .other, size := 1, bytes := 0, zero := [], cmp := .none, pl := [] }),
  (107, { kd := .func, size := 1, bytes := 8, zero := [.ot .nilFunc], cmp := .none, pl := [] }),
  (108, { kd := .func, size := 1, bytes := 8, zero := [.ot .nilFunc], cmp := .none, pl := [] }),
  (109, { kd := .ptr 105, size := 1, bytes := 8, zero := [.ot (.pointer .none)], cmp := .none, pl := [] }),
  (110, { kd := .func, size := 1, bytes := 8, zero := [.ot .nilFunc], cmp := .none, pl := [] }),
  (111, { kd := .func, size := 1, bytes := 8, zero := [.ot .nilFunc], cmp := .none, pl := [] }),
  (112, { kd := .other, size := 1, bytes := 0, zero := [], cmp := .none, pl := [] }),
  (113, { kd := .func, size := 1, bytes := 8, zero := [.ot .nilFunc], cmp := .none, pl := [] }),
  (114, { kd := .func, size := 1, bytes := 8, zero := [.ot .nilFunc], cmp := .none, pl := [] }),
  (115, { kd := .func, size := 1, bytes := 8, zero := [.ot .nilFunc], cmp := .none, pl := [] }),
  (116, { kd := .func, size := 1, bytes := 8, zero := [.ot .nilFunc], cmp := .none, pl := [] }),
  (117, { kd := .func, size := 1, bytes := 8, zero := [.ot .nilFunc], cmp := .none, pl := [] }),
  (118, { kd := .func, size := 1, bytes := 8, zero := [.ot .nilFunc], cmp := .none, pl := [] }),
  (120, { kd := .struct [(0, 5), (1, 5)], size := 2, bytes := 2, zero := [.it .u8 0, .it .u8 0], cmp := .some [.it .u8 0, .it .u8 0], pl := [(0, 1), (1, 1)] }),
  (121, { kd := .struct [(0, 5), (1, 5)], size := 2, bytes := 2, zero := [.it .u8 0, .it .u8 0], cmp := .some [.it .u8 0, .it .u8 0], pl := [(0, 1), (1, 1)] }),
  (122, { kd := .arr 16 121, size := 32, bytes := 32, zero := [.it .u8 0, .it .u8 0, .it .u8 0, .it .u8 0, .it .u8 0, .it .u8 0, .it .u8 0, .it .u8 0, .it .u8 0, .it .u8 0, .it .u8 0, .it .u8 0, .it .u8 0, .it .u8 0, .it .u8 0, .it .u8 0, .it .u8 0, .it .u8 0, .it .u8 0, .it .u8 0, .it .u8 0, .it .u8 0, .it .u8 0, .it .u8 0, .it .u8 0, .it .u8 0, .it .u8 0, .it .u8 0, .it .u8 0, .it .u8 0, .it .u8 0, .it .u8 0], cmp := .some [.it .u8 0, .it .u8 0, .it .u8 0, .it .u8 0, .it .u8 0, .it .u8 0, .it .u8 0, .it .u8 0, .it .u8 0, .it .u8 0, .it .u8 0, .it .u8 0, .it .u8 0, .it .u8 0, .it .u8 0, .it .u8 0, .it .u8 0, .it .u8 0, .it .u8 0, .it .u8 0, .it .u8 0, .it .u8 0, .it .u8 0, .it .u8 0, .it .u8 0, .it .u8 0, .it .u8 0, .it .u8 0, .it .u8 0, .it .u8 0, .it .u8 0, .it .u8 0], pl := [] }),
  (123, { kd := .int .u32, size := 1, bytes := 4, zero := [.it .u32 0], cmp := .some [.it .u32 0], pl := [] }),
  (124, { kd := .other, size := 1, bytes := 0, zero := [], cmp := .none, pl := [] }),
  (125, { kd := .func, size := 1, bytes := 8, zero := [.ot .nilFunc], cmp := .none, pl := [] }),
  (126, { kd := .func, size := 1, bytes := 8, zero := [.ot .nilFunc], cmp := .none, pl := [] }),
  (127, { kd := .struct [(0, 17), (1, 17), (2, 17), (3, 9)], size := 4, bytes := 40, zero := [.ot (.pointer .none), .ot (.pointer .none), .ot (.pointer .none), .st []], cmp := .none, pl := [(0, 1), (1, 1), (2, 1), (3, 1)] }),
  (128, { kd := .struct [(0, 17), (1, 17), (2, 17), (3, 9)], size := 4, bytes := 40, zero := [.ot (.pointer .none), .ot (.pointer .none), .ot (.pointer .none), .st []], cmp := .none, pl := [(0, 1), (1, 1), (2, 1), (3, 1)] }),
  (129, { kd := .arr 0 16, size := 0, bytes := 0, zero := [], cmp := .none, pl := [] }),
  (130, { kd := .struct [(0, 129)], size := 0, bytes := 0, zero := [], cmp := .none, pl := [(0, 0)] }),
  (131, { kd := .struct [(0, 129)], size := 0, bytes := 0, zero := [], cmp := .none, pl := [(0, 0)] }),
  (132, { kd := .func, size := 1, bytes := 8, zero := [.ot .nilFunc], cmp := .none, pl := [] }),
  (133, { kd := .int .u8, size := 1, bytes := 1, zero := [.it .u8 0], cmp := .some [.it .u8 0], pl := [] }),
  (134, { kd := .int .u8, size := 1, bytes := 1, zero := [.it .u8 0], cmp := .some [.it .u8 0], pl := [] }),
  (135, { kd := .func, size := 1, bytes := 8, zero := [.ot .nilFunc], cmp := .none, pl := [] }),
  (136, { kd := .int .i32, size := 1, bytes := 4, zero := [.it .i32 0], cmp := .some [.it .i32 0], pl := [] }),
  (137, { kd := .int .i32, size := 1, bytes := 4, zero := [.it .i32 0], cmp := .some [.it .i32 0], pl := [] }),
  (138, { kd := .struct [(0, 12), (1, 12), (2, 123), (3, 133), (4, 5), (5, 5), (6, 134), (7, 135), (8, 76), (9, 136), (10, 137)], size := 11, bytes := 48, zero := [.it .u64 0, .it .u64 0, .it .u32 0, .it .u8 0, .it .u8 0, .it .u8 0, .it .u8 0, .ot .nilFunc, .ot (.pointer .none), .it .i32 0, .it .i32 0], cmp := .none, pl := [(0, 1), (1, 1), (2, 1), (3, 1), (4, 1), (5, 1), (6, 1), (7, 1), (8, 1), (9, 1), (10, 1)] }),
  (139, { kd := .struct [(0, 12), (1, 12), (2, 123), (3, 133), (4, 5), (5, 5), (6, 134), (7, 135), (8, 76), (9, 136), (10, 137)], size := 11, bytes := 48, zero := [.it .u64 0, .it .u64 0, .it .u32 0, .it .u8 0, .it .u8 0, .it .u8 0, .it .u8 0, .ot .nilFunc, .ot (.pointer .none), .it .i32 0, .it .i32 0], cmp := .none, pl := [(0, 1), (1, 1), (2, 1), (3, 1), (4, 1), (5, 1), (6, 1), (7, 1), (8, 1), (9, 1), (10, 1)] })]
def ti (t : Nat) : Option Ty := Go.Sy.look t tyL
theorem tyL_ok : tyL.map (fun p => tyOf Tryz.prog p.1) = tyL.map (fun p => some p.2) := by kernel_rfl
theorem ti_ok : TiOK Tryz.prog ti := tiOK_of tyL_ok
end Go.Proofs.YtkcpcjhjemedpaaGreatDoor

/- What entering each function needs. Conditions: none. -/
namespace Go.Proofs.YtkcpcjhjemedpaaGreatDoor
open Go.Sy
set_option maxRecDepth 100000
/-- gosem.cut.init -/
theorem i2 : FnI Tryz.prog 2 1 [] (bd Tryz.f2) := FnI.mk' Tryz.func2 rfl rfl rfl Tryz.call2
/-- flotsam/flotsamlaw39.DiffTells -/
theorem i3 : FnI Tryz.prog 3 57 [.tmp 4] (bd Tryz.f3) := FnI.mk' Tryz.func3 rfl rfl rfl Tryz.call3
/-- flotsam/flotsamlaw39.Few -/
theorem i4 : FnI Tryz.prog 4 33 [.tmp 2] (bd Tryz.f4) := FnI.mk' Tryz.func4 rfl rfl rfl Tryz.call4
/-- flotsam/flotsamlaw39.knows -/
theorem i5 : FnI Tryz.prog 5 47 [.tmp 0] (bd Tryz.f5) := FnI.mk' Tryz.func5 rfl rfl rfl Tryz.call5
/-- flotsam/diff.Diff -/
theorem i6 : FnI Tryz.prog 6 87 [.tmp 4, .tmp 5] (bd Tryz.f6) := FnI.mk' Tryz.func6 rfl rfl rfl Tryz.call6
/-- flotsam/flotsamref39.Diff -/
theorem i7 : FnI Tryz.prog 7 108 [.tmp 4, .tmp 5] (bd Tryz.f7) := FnI.mk' Tryz.func7 rfl rfl rfl Tryz.call7
/-- flotsam/flotsamref39.Same -/
theorem i8 : FnI Tryz.prog 8 26 [.tmp 4] (bd Tryz.f8) := FnI.mk' Tryz.func8 rfl rfl rfl Tryz.call8
/-- flotsam/flotsamlaw39.back -/
theorem i9 : FnI Tryz.prog 9 19 [.tmp 2] (bd Tryz.f9) := FnI.mk' Tryz.func9 rfl rfl rfl Tryz.call9
/-- flotsam/diff.Right -/
theorem i10 : FnI Tryz.prog 10 32 [.tmp 2] (bd Tryz.f10) := FnI.mk' Tryz.func10 rfl rfl rfl Tryz.call10
/-- flotsam/flotsamref39.Right -/
theorem i11 : FnI Tryz.prog 11 35 [.tmp 2] (bd Tryz.f11) := FnI.mk' Tryz.func11 rfl rfl rfl Tryz.call11
/-- flotsam/diff.Show -/
theorem i12 : FnI Tryz.prog 12 45 [.tmp 2] (bd Tryz.f12) := FnI.mk' Tryz.func12 rfl rfl rfl Tryz.call12
/-- flotsam/flotsamref39.Show -/
theorem i13 : FnI Tryz.prog 13 55 [.tmp 2] (bd Tryz.f13) := FnI.mk' Tryz.func13 rfl rfl rfl Tryz.call13
/-- flotsam/diff.Patch -/
theorem i14 : FnI Tryz.prog 14 25 [.tmp 4, .tmp 5] (bd Tryz.f14) := FnI.mk' Tryz.func14 rfl rfl rfl Tryz.call14
/-- flotsam/flotsamref14.Same -/
theorem i15 : FnI Tryz.prog 15 26 [.tmp 4] (bd Tryz.f15) := FnI.mk' Tryz.func15 rfl rfl rfl Tryz.call15
/-- flotsam/diff.Back -/
theorem i16 : FnI Tryz.prog 16 16 [.tmp 2] (bd Tryz.f16) := FnI.mk' Tryz.func16 rfl rfl rfl Tryz.call16
/-- flotsam/diff.paths -/
theorem i17 : FnI Tryz.prog 17 22 [.tmp 4] (bd Tryz.f17) := FnI.mk' Tryz.func17 rfl rfl rfl Tryz.call17
/-- flotsam/flotsamref39.at -/
theorem i18 : FnI Tryz.prog 18 20 [.tmp 4] (bd Tryz.f18) := FnI.mk' Tryz.func18 rfl rfl rfl Tryz.call18
/-- flotsam/flotsamref14.Sorted -/
theorem i19 : FnI Tryz.prog 19 49 [.tmp 2] (bd Tryz.f19) := FnI.mk' Tryz.func19 rfl rfl rfl Tryz.call19
/-- flotsam/diff.may -/
theorem i20 : FnI Tryz.prog 20 12 [.tmp 2] (bd Tryz.f20) := FnI.mk' Tryz.func20 rfl rfl rfl Tryz.call20
/-- flotsam/flotsamref14.May -/
theorem i21 : FnI Tryz.prog 21 31 [.tmp 2] (bd Tryz.f21) := FnI.mk' Tryz.func21 rfl rfl rfl Tryz.call21
/-- flotsam/flotsamref14.Before -/
theorem i22 : FnI Tryz.prog 22 55 [.tmp 4] (bd Tryz.f22) := FnI.mk' Tryz.func22 rfl rfl rfl Tryz.call22
/-- flotsam/diff.Show$1 -/
theorem i23 : FnI Tryz.prog 23 7 [] (bd Tryz.f23) := FnI.mk' Tryz.func23 rfl rfl rfl Tryz.call23
/-- (*strings.Builder).WriteString -/
theorem i24 : FnI Tryz.prog 24 19 [.tmp 4, .tmp 5] (bd Tryz.f24) := FnI.mk' Tryz.func24 rfl rfl rfl Tryz.call24
/-- strings.Join -/
theorem i25 : FnI Tryz.prog 25 75 [.tmp 4] (bd Tryz.f25) := FnI.mk' Tryz.func25 rfl rfl rfl Tryz.call25
/-- (*strings.Builder).String -/
theorem i26 : FnI Tryz.prog 26 14 [.tmp 2] (bd Tryz.f26) := FnI.mk' Tryz.func26 rfl rfl rfl Tryz.call26
/-- slices.Clone[[]flotsam/api.Node,flotsam/api.Node] -/
theorem i27 : FnI Tryz.prog 27 8 [.tmp 2] (bd Tryz.f27) := FnI.mk' Tryz.func27 rfl rfl rfl Tryz.call27
/-- (*flotsam/diff.nodes).do -/
theorem i28 : FnI Tryz.prog 28 40 [.tmp 4] (bd Tryz.f28) := FnI.mk' Tryz.func28 rfl rfl rfl Tryz.call28
/-- slices.Backward[[]flotsam/diff.Change,flotsam/diff.Change] -/
theorem i29 : FnI Tryz.prog 29 4 [.tmp 2] (bd Tryz.f29) := FnI.mk' Tryz.func29 rfl rfl rfl Tryz.call29
/-- flotsam/diff.turned -/
theorem i30 : FnI Tryz.prog 30 23 [.cell 2 43] (bd Tryz.f30) := FnI.mk' Tryz.func30 rfl rfl rfl Tryz.call30
/-- flotsam/path.Split -/
theorem i31 : FnI Tryz.prog 31 28 [.tmp 2, .tmp 3] (bd Tryz.f31) := FnI.mk' Tryz.func31 rfl rfl rfl Tryz.call31
/-- flotsam/diff.order[string] -/
theorem i32 : FnI Tryz.prog 32 8 [.tmp 4] (bd Tryz.f32) := FnI.mk' Tryz.func32 rfl rfl rfl Tryz.call32
/-- flotsam/view.Show -/
theorem i33 : FnI Tryz.prog 33 35 [.tmp 2, .tmp 3] (bd Tryz.f33) := FnI.mk' Tryz.func33 rfl rfl rfl Tryz.call33
/-- flotsam/flotsamref08.Parent -/
theorem i34 : FnI Tryz.prog 34 30 [.tmp 2, .tmp 3, .tmp 4] (bd Tryz.f34) := FnI.mk' Tryz.func34 rfl rfl rfl Tryz.call34
/-- flotsam/flotsamref08.Split -/
theorem i35 : FnI Tryz.prog 35 56 [.tmp 2, .tmp 3] (bd Tryz.f35) := FnI.mk' Tryz.func35 rfl rfl rfl Tryz.call35
/-- (*strings.Builder).copyCheck -/
theorem i36 : FnI Tryz.prog 36 20 [] (bd Tryz.f36) := FnI.mk' Tryz.func36 rfl rfl rfl Tryz.call36
/-- (*strings.Builder).Grow -/
theorem i37 : FnI Tryz.prog 37 25 [] (bd Tryz.f37) := FnI.mk' Tryz.func37 rfl rfl rfl Tryz.call37
/-- (*flotsam/diff.nodes).drop -/
theorem i38 : FnI Tryz.prog 38 30 [.tmp 4] (bd Tryz.f38) := FnI.mk' Tryz.func38 rfl rfl rfl Tryz.call38
/-- (*flotsam/diff.nodes).put -/
theorem i39 : FnI Tryz.prog 39 30 [.tmp 4] (bd Tryz.f39) := FnI.mk' Tryz.func39 rfl rfl rfl Tryz.call39
/-- slices.Backward[[]flotsam/diff.Change,flotsam/diff.Change]$1 -/
theorem i40 : FnI Tryz.prog 40 19 [] (bd Tryz.f40) := FnI.mk' Tryz.func40 rfl rfl rfl Tryz.call40
/-- strings.CutPrefix -/
theorem i41 : FnI Tryz.prog 41 11 [.tmp 4, .tmp 5] (bd Tryz.f41) := FnI.mk' Tryz.func41 rfl rfl rfl Tryz.call41
/-- strings.Split -/
theorem i42 : FnI Tryz.prog 42 8 [.tmp 4] (bd Tryz.f42) := FnI.mk' Tryz.func42 rfl rfl rfl Tryz.call42
/-- slices.ContainsFunc[[]string,string] -/
theorem i43 : FnI Tryz.prog 43 9 [.tmp 4] (bd Tryz.f43) := FnI.mk' Tryz.func43 rfl rfl rfl Tryz.call43
/-- flotsam/path.Split$1 -/
theorem i44 : FnI Tryz.prog 44 6 [.tmp 2] (bd Tryz.f44) := FnI.mk' Tryz.func44 rfl rfl rfl Tryz.call44
/-- flotsam/layout.Name -/
theorem i45 : FnI Tryz.prog 45 23 [.tmp 2] (bd Tryz.f45) := FnI.mk' Tryz.func45 rfl rfl rfl Tryz.call45
/-- slices.Compare[[]string,string] -/
theorem i46 : FnI Tryz.prog 46 36 [.tmp 4] (bd Tryz.f46) := FnI.mk' Tryz.func46 rfl rfl rfl Tryz.call46
/-- flotsam/view.may -/
theorem i47 : FnI Tryz.prog 47 31 [.tmp 2] (bd Tryz.f47) := FnI.mk' Tryz.func47 rfl rfl rfl Tryz.call47
/-- flotsam/view.Quote -/
theorem i48 : FnI Tryz.prog 48 30 [.tmp 2] (bd Tryz.f48) := FnI.mk' Tryz.func48 rfl rfl rfl Tryz.call48
/-- flotsam/flotsamref08.Join -/
theorem i49 : FnI Tryz.prog 49 22 [.tmp 2] (bd Tryz.f49) := FnI.mk' Tryz.func49 rfl rfl rfl Tryz.call49
/-- flotsam/flotsamref07.Name -/
theorem i50 : FnI Tryz.prog 50 53 [.tmp 2] (bd Tryz.f50) := FnI.mk' Tryz.func50 rfl rfl rfl Tryz.call50
/-- (*strings.Builder).grow -/
theorem i52 : FnI Tryz.prog 52 30 [] (bd Tryz.f52) := FnI.mk' Tryz.func52 rfl rfl rfl Tryz.call52
/-- slices.Index[flotsam/diff.nodes,flotsam/api.Node] -/
theorem i53 : FnI Tryz.prog 53 19 [.tmp 4] (bd Tryz.f53) := FnI.mk' Tryz.func53 rfl rfl rfl Tryz.call53
/-- (flotsam/diff.nodes).find -/
theorem i54 : FnI Tryz.prog 54 11 [.tmp 4, .tmp 5] (bd Tryz.f54) := FnI.mk' Tryz.func54 rfl rfl rfl Tryz.call54
/-- slices.Insert[flotsam/diff.nodes,flotsam/api.Node] -/
theorem i55 : FnI Tryz.prog 55 95 [.tmp 6] (bd Tryz.f55) := FnI.mk' Tryz.func55 rfl rfl rfl Tryz.call55
/-- slices.Clone[flotsam/diff.nodes,flotsam/api.Node] -/
theorem i56 : FnI Tryz.prog 56 8 [.tmp 2] (bd Tryz.f56) := FnI.mk' Tryz.func56 rfl rfl rfl Tryz.call56
/-- internal/stringslite.CutPrefix -/
theorem i57 : FnI Tryz.prog 57 15 [.tmp 4, .tmp 5] (bd Tryz.f57) := FnI.mk' Tryz.func57 rfl rfl rfl Tryz.call57
/-- strings.genSplit -/
theorem i58 : FnI Tryz.prog 58 66 [.tmp 8] (bd Tryz.f58) := FnI.mk' Tryz.func58 rfl rfl rfl Tryz.call58
/-- slices.IndexFunc[[]string,string] -/
theorem i59 : FnI Tryz.prog 59 19 [.tmp 4] (bd Tryz.f59) := FnI.mk' Tryz.func59 rfl rfl rfl Tryz.call59
/-- strings.Trim -/
theorem i60 : FnI Tryz.prog 60 43 [.tmp 4] (bd Tryz.f60) := FnI.mk' Tryz.func60 rfl rfl rfl Tryz.call60
/-- cmp.Compare[string] -/
theorem i61 : FnI Tryz.prog 61 20 [.tmp 4] (bd Tryz.f61) := FnI.mk' Tryz.func61 rfl rfl rfl Tryz.call61
/-- flotsam/path.Parent -/
theorem i62 : FnI Tryz.prog 62 32 [.tmp 2, .tmp 3, .tmp 4] (bd Tryz.f62) := FnI.mk' Tryz.func62 rfl rfl rfl Tryz.call62
/-- (*strings.Builder).WriteByte -/
theorem i63 : FnI Tryz.prog 63 17 [.tmp 4] (bd Tryz.f63) := FnI.mk' Tryz.func63 rfl rfl rfl Tryz.call63
/-- flotsam/view.plain -/
theorem i64 : FnI Tryz.prog 64 17 [.tmp 2] (bd Tryz.f64) := FnI.mk' Tryz.func64 rfl rfl rfl Tryz.call64
/-- slices.BinarySearchFunc[flotsam/diff.nodes,flotsam/api.Node,string] -/
theorem i66 : FnI Tryz.prog 66 49 [.tmp 6, .tmp 7] (bd Tryz.f66) := FnI.mk' Tryz.func66 rfl rfl rfl Tryz.call66
/-- (flotsam/diff.nodes).find$1 -/
theorem i67 : FnI Tryz.prog 67 9 [.tmp 4] (bd Tryz.f67) := FnI.mk' Tryz.func67 rfl rfl rfl Tryz.call67
/-- slices.rotateRight[flotsam/api.Node] -/
theorem i69 : FnI Tryz.prog 69 10 [] (bd Tryz.f69) := FnI.mk' Tryz.func69 rfl rfl rfl Tryz.call69
/-- internal/stringslite.HasPrefix -/
theorem i70 : FnI Tryz.prog 70 18 [.tmp 4] (bd Tryz.f70) := FnI.mk' Tryz.func70 rfl rfl rfl Tryz.call70
/-- strings.explode -/
theorem i71 : FnI Tryz.prog 71 50 [.tmp 4] (bd Tryz.f71) := FnI.mk' Tryz.func71 rfl rfl rfl Tryz.call71
/-- strings.Count -/
theorem i72 : FnI Tryz.prog 72 34 [.tmp 4] (bd Tryz.f72) := FnI.mk' Tryz.func72 rfl rfl rfl Tryz.call72
/-- strings.Index -/
theorem i73 : FnI Tryz.prog 73 8 [.tmp 4] (bd Tryz.f73) := FnI.mk' Tryz.func73 rfl rfl rfl Tryz.call73
/-- strings.trimLeftByte -/
theorem i74 : FnI Tryz.prog 74 17 [.tmp 4] (bd Tryz.f74) := FnI.mk' Tryz.func74 rfl rfl rfl Tryz.call74
/-- strings.trimRightByte -/
theorem i75 : FnI Tryz.prog 75 23 [.tmp 4] (bd Tryz.f75) := FnI.mk' Tryz.func75 rfl rfl rfl Tryz.call75
/-- strings.makeASCIISet -/
theorem i76 : FnI Tryz.prog 76 21 [.cell 2 105, .tmp 3] (bd Tryz.f76) := FnI.mk' Tryz.func76 rfl rfl rfl Tryz.call76
/-- strings.trimLeftASCII -/
theorem i77 : FnI Tryz.prog 77 16 [.tmp 4] (bd Tryz.f77) := FnI.mk' Tryz.func77 rfl rfl rfl Tryz.call77
/-- strings.trimRightASCII -/
theorem i78 : FnI Tryz.prog 78 22 [.tmp 4] (bd Tryz.f78) := FnI.mk' Tryz.func78 rfl rfl rfl Tryz.call78
/-- strings.trimLeftUnicode -/
theorem i79 : FnI Tryz.prog 79 23 [.tmp 4] (bd Tryz.f79) := FnI.mk' Tryz.func79 rfl rfl rfl Tryz.call79
/-- strings.trimRightUnicode -/
theorem i80 : FnI Tryz.prog 80 34 [.tmp 4] (bd Tryz.f80) := FnI.mk' Tryz.func80 rfl rfl rfl Tryz.call80
/-- cmp.isNaN[string] -/
theorem i81 : FnI Tryz.prog 81 6 [.tmp 2] (bd Tryz.f81) := FnI.mk' Tryz.func81 rfl rfl rfl Tryz.call81
/-- flotsam/path.Join -/
theorem i82 : FnI Tryz.prog 82 6 [.tmp 2] (bd Tryz.f82) := FnI.mk' Tryz.func82 rfl rfl rfl Tryz.call82
/-- slices.rotateLeft[flotsam/api.Node] -/
theorem i83 : FnI Tryz.prog 83 14 [] (bd Tryz.f83) := FnI.mk' Tryz.func83 rfl rfl rfl Tryz.call83
/-- unicode/utf8.RuneCountInString -/
theorem i84 : FnI Tryz.prog 84 10 [.tmp 2] (bd Tryz.f84) := FnI.mk' Tryz.func84 rfl rfl rfl Tryz.call84
/-- unicode/utf8.DecodeRuneInString -/
theorem i85 : FnI Tryz.prog 85 19 [.tmp 2, .tmp 3] (bd Tryz.f85) := FnI.mk' Tryz.func85 rfl rfl rfl Tryz.call85
/-- internal/stringslite.Index -/
theorem i87 : FnI Tryz.prog 87 143 [.tmp 4] (bd Tryz.f87) := FnI.mk' Tryz.func87 rfl rfl rfl Tryz.call87
/-- (*strings.asciiSet).contains -/
theorem i88 : FnI Tryz.prog 88 10 [.tmp 4] (bd Tryz.f88) := FnI.mk' Tryz.func88 rfl rfl rfl Tryz.call88
/-- strings.ContainsRune -/
theorem i89 : FnI Tryz.prog 89 9 [.tmp 4] (bd Tryz.f89) := FnI.mk' Tryz.func89 rfl rfl rfl Tryz.call89
/-- unicode/utf8.DecodeLastRuneInString -/
theorem i90 : FnI Tryz.prog 90 51 [.tmp 2, .tmp 3] (bd Tryz.f90) := FnI.mk' Tryz.func90 rfl rfl rfl Tryz.call90
/-- slices.Reverse[[]flotsam/api.Node,flotsam/api.Node] -/
theorem i91 : FnI Tryz.prog 91 28 [] (bd Tryz.f91) := FnI.mk' Tryz.func91 rfl rfl rfl Tryz.call91
/-- unicode/utf8.decodeRuneInStringSlow -/
theorem i92 : FnI Tryz.prog 92 117 [.tmp 2, .tmp 3] (bd Tryz.f92) := FnI.mk' Tryz.func92 rfl rfl rfl Tryz.call92
/-- internal/stringslite.IndexByte -/
theorem i93 : FnI Tryz.prog 93 8 [.tmp 4] (bd Tryz.f93) := FnI.mk' Tryz.func93 rfl rfl rfl Tryz.call93
/-- internal/bytealg.Cutover -/
theorem i95 : FnI Tryz.prog 95 6 [.tmp 2] (bd Tryz.f95) := FnI.mk' Tryz.func95 rfl rfl rfl Tryz.call95
/-- internal/bytealg.IndexRabinKarp[string] -/
theorem i96 : FnI Tryz.prog 96 81 [.tmp 4] (bd Tryz.f96) := FnI.mk' Tryz.func96 rfl rfl rfl Tryz.call96
/-- strings.IndexRune -/
theorem i97 : FnI Tryz.prog 97 187 [.tmp 4] (bd Tryz.f97) := FnI.mk' Tryz.func97 rfl rfl rfl Tryz.call97
/-- unicode/utf8.RuneStart -/
theorem i98 : FnI Tryz.prog 98 6 [.tmp 2] (bd Tryz.f98) := FnI.mk' Tryz.func98 rfl rfl rfl Tryz.call98
/-- internal/bytealg.hashStr[string] -/
theorem i100 : FnI Tryz.prog 100 39 [.tmp 2, .tmp 3] (bd Tryz.f100) := FnI.mk' Tryz.func100 rfl rfl rfl Tryz.call100
/-- strings.IndexByte -/
theorem i101 : FnI Tryz.prog 101 8 [.tmp 4] (bd Tryz.f101) := FnI.mk' Tryz.func101 rfl rfl rfl Tryz.call101
/-- unicode/utf8.ValidRune -/
theorem i102 : FnI Tryz.prog 102 17 [.tmp 2] (bd Tryz.f102) := FnI.mk' Tryz.func102 rfl rfl rfl Tryz.call102
/-- gosem.cut.vars -/
theorem i124 : FnI Tryz.prog 124 6 [] (bd Tryz.f124) := FnI.mk' Tryz.func124 rfl rfl rfl Tryz.call124
end Go.Proofs.YtkcpcjhjemedpaaGreatDoor

namespace Go.Proofs.YtkcpcjhjemedpaaGreatDoor
open Go.Sy
set_option maxRecDepth 100000
set_option linter.all false
/- Names, paths, their order; nodes, changes. -/
def signB (c : UInt8) : Bool := decide (97 ≤ c.toNat ∧ c.toNat ≤ 122 ∨ 48 ≤ c.toNat ∧ c.toNat ≤ 57 ∨ c.toNat = 46 ∨ c.toNat = 95)
def nameB (s : List UInt8) : Bool := decide (1 ≤ s.length ∧ s.length ≤ 8 ∧ s ≠ [46] ∧ s ≠ [46, 46]) && s.all signB
/-- The words of a text, parted by a byte. -/
def wordsC (c : UInt8) : List UInt8 → List (List UInt8)
  | [] => [[]]
  | b :: t => if b = c then [] :: wordsC c t else match wordsC c t with
    | [] => [[b]]
    | w :: r => (b :: w) :: r
def splitP (p : List UInt8) : List (List UInt8) × Int :=
  if p = [47] then ([], 0) else
  match p with
  | [] => ([], 9)
  | b :: r => if b = 47 then (if (wordsC 47 r).length ≤ 4 ∧ (wordsC 47 r).all nameB = true then (wordsC 47 r, 0) else ([], 9)) else ([], 9)
def joinP (l : List (List UInt8)) : List UInt8 := (l.map (fun w => 47 :: w)).flatten
structure Nod where
  p : List UInt8
  d : Bool
  x : List UInt8
deriving DecidableEq
def encN (n : Nod) : List D := [.st n.p, .bl n.d, .st n.x]
structure Chg where
  k : Int
  a : Nod
  b : Nod
deriving DecidableEq
def encG (c : Chg) : List D := [.it .i64 c.k, .st c.a.p, .bl c.a.d, .st c.a.x, .st c.b.p, .bl c.b.d, .st c.b.x]
def nod0 : Nod := ⟨[], false, []⟩
def key (p : List UInt8) : List (List UInt8) := (splitP p).1
def mayB (n : Nod) : Bool := decide ((splitP n.p).2 = 0 ∧ (splitP n.p).1 ≠ [] ∧ n.x.length ≤ 128 ∧ (n.d = true → n.x = []))
def cmpS (a b : List UInt8) : Int := if Op.bytesLess a b = true then -1 else if Op.bytesLess b a = true then 1 else 0
def cmpN : List (List UInt8) → List (List UInt8) → Int
  | [], [] => 0
  | [], _ :: _ => -1
  | _ :: _, [] => 1
  | x :: a, y :: b => if cmpS x y = 0 then cmpN a b else cmpS x y
def befN : List (List UInt8) → List (List UInt8) → Bool
  | x :: a, y :: b => if x = y then befN a b else Op.bytesLess x y
  | [], _ :: _ => true
  | _, [] => false
theorem less_irr : ∀ a : List UInt8, Op.bytesLess a a = false
  | [] => rfl
  | a :: t => by simp [Op.bytesLess, less_irr t]
theorem less_tri : ∀ a b : List UInt8, Op.bytesLess a b = false → Op.bytesLess b a = false → a = b
  | [], [], _, _ => rfl
  | [], _ :: _, h, _ => by simp [Op.bytesLess] at h
  | _ :: _, [], _, h => by simp [Op.bytesLess] at h
  | a :: s, b :: t, h, k => by
    simp only [Op.bytesLess, Bool.or_eq_false_iff, Bool.and_eq_false_iff, decide_eq_false_iff_not, beq_eq_false_iff_ne] at h k
    obtain ⟨h1, h2⟩ := h
    obtain ⟨k1, k2⟩ := k
    have e : a = b := by
      apply UInt8.toNat_inj.1
      rw [UInt8.lt_iff_toNat_lt] at h1 k1
      omega
    subst e
    rcases h2 with h2 | h2
    · exact absurd rfl h2
    rcases k2 with k2 | k2
    · exact absurd rfl k2
    rw [less_tri s t h2 k2]
theorem less_trans : ∀ a b c : List UInt8, Op.bytesLess a b = true → Op.bytesLess b c = true → Op.bytesLess a c = true
  | _, _, [], _, h => by simp [Op.bytesLess] at h
  | _, [], _ :: _, h, _ => by simp [Op.bytesLess] at h
  | [], _ :: _, _ :: _, _, _ => rfl
  | a :: s, b :: t, c :: u, h, k => by
    simp only [Op.bytesLess, Bool.or_eq_true, Bool.and_eq_true, decide_eq_true_eq, beq_iff_eq, UInt8.lt_iff_toNat_lt] at h k ⊢
    rcases h with h | ⟨rfl, h⟩
    · rcases k with k | ⟨rfl, k⟩
      · exact .inl (by omega)
      · exact .inl h
    · rcases k with k | ⟨rfl, k⟩
      · exact .inl k
      · exact .inr ⟨rfl, less_trans s t u h k⟩
theorem less_asy (a b : List UInt8) (h : Op.bytesLess a b = true) : Op.bytesLess b a = false := by
  cases hb : Op.bytesLess b a with
  | false => rfl
  | true => have := less_trans _ _ _ h hb; rw [less_irr] at this; cases this
theorem cmpS_self (a : List UInt8) : cmpS a a = 0 := by simp [cmpS, less_irr]
theorem cmpS_0 {a b : List UInt8} (h : cmpS a b = 0) : a = b := by
  unfold cmpS at h
  split at h
  · cases h
  · split at h
    · cases h
    · rename_i h1 h2; exact less_tri a b (by simpa using h1) (by simpa using h2)
theorem cmpS_neg {a b : List UInt8} : cmpS a b < 0 ↔ Op.bytesLess a b = true := by
  unfold cmpS
  split
  · simp [*]
  · split <;> simp [*]
theorem cmpS_anti (a b : List UInt8) : cmpS b a = - cmpS a b := by
  unfold cmpS
  cases h1 : Op.bytesLess a b with
  | true => rw [less_asy a b h1]; rfl
  | false => cases Op.bytesLess b a <;> rfl
theorem cmpN_self : ∀ a, cmpN a a = 0
  | [] => rfl
  | x :: a => by rw [cmpN, if_pos (cmpS_self x), cmpN_self a]
theorem cmpN_0 : ∀ {a b}, cmpN a b = 0 → a = b
  | [], [], _ => rfl
  | [], _ :: _, h => by cases h
  | _ :: _, [], h => by cases h
  | x :: a, y :: b, h => by
    rw [cmpN] at h
    split at h
    · rename_i h1; rw [cmpS_0 h1, cmpN_0 h]
    · rename_i h1; exact absurd h h1
theorem cmpN_anti : ∀ a b, cmpN b a = - cmpN a b
  | [], [] => rfl
  | [], _ :: _ => rfl
  | _ :: _, [] => rfl
  | x :: a, y :: b => by
    rw [cmpN, cmpN, cmpS_anti x y, cmpN_anti a b]
    by_cases h : cmpS x y = 0
    · rw [if_pos h, if_pos (by omega)]
    · rw [if_neg h, if_neg (by omega)]
theorem cmpN_trans : ∀ a b c, cmpN a b < 0 → cmpN b c < 0 → cmpN a c < 0
  | [], [], c, h, _ => by simp [cmpN] at h
  | _ :: _, [], c, h, _ => by simp [cmpN] at h
  | _, _ :: _, [], _, h => by simp [cmpN] at h
  | [], _ :: _, _ :: _, _, _ => by simp [cmpN]
  | x :: a, y :: b, z :: c, h, k => by
    rw [cmpN] at h k ⊢
    by_cases h1 : cmpS x y = 0
    · rw [if_pos h1] at h
      obtain rfl := cmpS_0 h1
      by_cases k1 : cmpS x z = 0
      · rw [if_pos k1] at k ⊢
        exact cmpN_trans a b c h k
      · rw [if_neg k1] at k ⊢; exact k
    · rw [if_neg h1] at h
      by_cases k1 : cmpS y z = 0
      · obtain rfl := cmpS_0 k1
        rw [if_neg h1]; exact h
      · rw [if_neg k1] at k
        have := cmpS_neg.2 (less_trans _ _ _ (cmpS_neg.1 h) (cmpS_neg.1 k))
        rw [if_neg (by omega)]; exact this
theorem cmpN_val : ∀ a b, cmpN a b = -1 ∨ cmpN a b = 0 ∨ cmpN a b = 1
  | [], [] => .inr (.inl rfl)
  | [], _ :: _ => .inl rfl
  | _ :: _, [] => .inr (.inr rfl)
  | x :: a, y :: b => by
    rw [cmpN]
    split
    · exact cmpN_val a b
    · unfold cmpS; split
      · exact .inl rfl
      · split
        · exact .inr (.inr rfl)
        · exact .inr (.inl rfl)
theorem befN_eq : ∀ a b, befN a b = decide (cmpN a b < 0)
  | [], [] => rfl
  | [], _ :: _ => rfl
  | _ :: _, [] => rfl
  | x :: a, y :: b => by
    rw [befN, cmpN]
    by_cases h : x = y
    · subst h; rw [if_pos rfl, if_pos (cmpS_self x), befN_eq a b]
    · rw [if_neg h, if_neg (fun h' => h (cmpS_0 h'))]
      cases hl : Op.bytesLess x y with
      | true => exact (decide_eq_true (cmpS_neg.2 hl)).symm
      | false => exact (decide_eq_false (fun h' => by rw [cmpS_neg.1 h'] at hl; cases hl)).symm
theorem wordsC_ne (c : UInt8) (s : List UInt8) : wordsC c s ≠ [] := by
  cases s with
  | nil => simp [wordsC]
  | cons b t =>
    rw [wordsC]
    split
    · simp
    · split <;> simp
theorem joinP_words (s : List UInt8) : joinP (wordsC 47 s) = 47 :: s := by
  induction s with
  | nil => rfl
  | cons b t ih =>
    rw [wordsC]
    split
    · rename_i h; subst h
      show 47 :: ([] ++ joinP (wordsC 47 t)) = _
      rw [ih]; rfl
    · cases ht : wordsC 47 t with
      | nil => exact absurd ht (wordsC_ne 47 t)
      | cons w r =>
        rw [ht] at ih
        have e : joinP (w :: r) = 47 :: (w ++ joinP r) := rfl
        have e' : joinP ((b :: w) :: r) = 47 :: b :: (w ++ joinP r) := rfl
        rw [e] at ih
        simp only [e']
        rw [List.cons.inj ih |>.2]
/-- A path of nodes is that of its names. -/
theorem key_join {p : List UInt8} (h : (splitP p).2 = 0) (h1 : (splitP p).1 ≠ []) : joinP (key p) = p := by
  unfold key splitP at *
  split at h1
  · exact absurd rfl h1
  · rename_i hp
    rw [if_neg hp] at h ⊢
    split at h1
    · exact absurd rfl h1
    · split at h1
      · rename_i hb; subst hb
        split at h1
        · rename_i hc; simp only [if_pos hc, if_true]; exact joinP_words _
        · exact absurd rfl h1
      · exact absurd rfl h1
theorem may_path {n : Nod} (h : mayB n = true) : joinP (key n.p) = n.p := by
  simp only [mayB, decide_eq_true_eq] at h
  exact key_join h.1 h.2.1
/-- Are they the nodes of a tree? -/
def rightL : Option (List UInt8) → List Nod → Bool
  | _, [] => true
  | o, n :: t => mayB n && (match o with | none => true | some q => decide (cmpN (key q) (key n.p) < 0)) && rightL (some n.p) t
def lt (x y : Nod) : Prop := cmpN (key x.p) (key y.p) < 0
def GoodL (l : List Nod) : Prop := (∀ x ∈ l, mayB x = true) ∧ l.Pairwise lt
theorem lt_trans {x y z : Nod} (h : lt x y) (k : lt y z) : lt x z := cmpN_trans _ _ _ h k
theorem lt_irr (x : Nod) : ¬ lt x x := by unfold lt; rw [cmpN_self]; omega
theorem lt_ne {x y : Nod} (h : lt x y) : x.p ≠ y.p := fun e => by unfold lt at h; rw [e, cmpN_self] at h; omega
theorem right_good : ∀ (l : List Nod) (o : Option (List UInt8)), rightL o l = true → GoodL l ∧ ∀ q, o = some q → ∀ x ∈ l, cmpN (key q) (key x.p) < 0
  | [], _, _ => ⟨⟨(fun _ h => by cases h), .nil⟩, fun _ _ _ h => by cases h⟩
  | n :: t, o, h => by
    simp only [rightL, Bool.and_eq_true] at h
    obtain ⟨⟨h1, h2⟩, h3⟩ := h
    obtain ⟨⟨g1, g2⟩, g3⟩ := right_good t _ h3
    refine ⟨⟨fun x hx => ?_, .cons (fun x hx => g3 _ rfl x hx) g2⟩, fun q hq x hx => ?_⟩
    · rcases List.mem_cons.1 hx with rfl | hx
      · exact h1
      · exact g1 x hx
    · subst hq
      simp only [decide_eq_true_eq] at h2
      rcases List.mem_cons.1 hx with rfl | hx
      · exact h2
      · exact cmpN_trans _ _ _ h2 (g3 _ rfl x hx)
theorem good_tail {x : Nod} {l : List Nod} (h : GoodL (x :: l)) : GoodL l := ⟨fun y hy => h.1 y (List.mem_cons_of_mem _ hy), (List.pairwise_cons.1 h.2).2⟩
/-- What becomes of one list of nodes on its way to another one: side by side. -/
def diffD : List Nod → List Nod → List Chg
  | [], [] => []
  | [], y :: b => ⟨2, nod0, y⟩ :: diffD [] b
  | x :: a, [] => ⟨1, x, nod0⟩ :: diffD a []
  | x :: a, y :: b =>
    if cmpN (key x.p) (key y.p) < 0 then ⟨1, x, nod0⟩ :: diffD a (y :: b)
    else if 0 < cmpN (key x.p) (key y.p) then ⟨2, nod0, y⟩ :: diffD (x :: a) b
    else if x = y then diffD a b else ⟨3, x, y⟩ :: diffD a b
termination_by a b => a.length + b.length
def mergeD : List Nod → List Nod → List Nod
  | [], b => b
  | x :: a, [] => x :: a
  | x :: a, y :: b =>
    if cmpN (key x.p) (key y.p) < 0 then x :: mergeD a (y :: b)
    else if 0 < cmpN (key x.p) (key y.p) then y :: mergeD (x :: a) b
    else x :: mergeD a b
termination_by a b => a.length + b.length
def atP (l : List Nod) (p : List UInt8) : Option Nod := l.find? (fun x => x.p == p)
def emit (a b : List Nod) (n : Nod) : List Chg :=
  match atP b n.p with
  | none => match atP a n.p with | some x => [⟨1, x, nod0⟩] | none => []
  | some y => match atP a n.p with
    | none => [⟨2, nod0, y⟩]
    | some x => if x = y then [] else [⟨3, x, y⟩]
theorem atP_in {l : List Nod} (h : GoodL l) {x : Nod} (hx : x ∈ l) : atP l x.p = some x := by
  induction l with
  | nil => cases hx
  | cons y t ih =>
    unfold atP
    rw [List.find?_cons]
    rcases List.mem_cons.1 hx with rfl | hx'
    · simp
    · have := lt_ne ((List.pairwise_cons.1 h.2).1 x hx')
      rw [show (y.p == x.p) = false by simpa using this]
      exact ih (good_tail h) hx'
theorem atP_no {l : List Nod} {p : List UInt8} (h : ∀ x ∈ l, x.p ≠ p) : atP l p = none := by
  unfold atP
  rw [List.find?_eq_none]
  intro x hx
  simpa using h x hx
/-- The merge, node by node, tells the differences. -/
theorem diff_emit (a0 b0 : List Nod) : ∀ (n : Nat) (a b : List Nod), a.length + b.length = n → GoodL a → GoodL b → (∀ x ∈ a, atP a0 x.p = some x) → (∀ y ∈ b, atP b0 y.p = some y) →
    (∀ x ∈ a, (∀ y ∈ b, y.p ≠ x.p) → atP b0 x.p = none) → (∀ y ∈ b, (∀ x ∈ a, x.p ≠ y.p) → atP a0 y.p = none) → (mergeD a b).flatMap (emit a0 b0) = diffD a b := by
  intro n
  induction n using Nat.strongRecOn with
  | ind n ih =>
    intro a b hn ga gb h1 h2 h3 h4
    have sub : ∀ {l : List Nod} {x : Nod}, GoodL (x :: l) → ∀ z ∈ l, lt x z := fun h => (List.pairwise_cons.1 h.2).1
    match a, b with
    | [], [] => simp [mergeD, diffD]
    | [], y :: b =>
      have e1 := ih (0 + b.length) (by simp at hn; omega) [] b rfl ⟨(fun _ h => by cases h), .nil⟩ (good_tail gb) (fun _ h => by cases h) (fun z hz => h2 z (List.mem_cons_of_mem _ hz)) (fun _ h => by cases h) (fun z hz hh => h4 z (List.mem_cons_of_mem _ hz) hh)
      rw [diffD, ← e1]
      simp only [mergeD, List.flatMap_cons]
      rw [emit, h2 y List.mem_cons_self, h4 y List.mem_cons_self (fun _ h => by cases h)]
      rfl
    | x :: a, [] =>
      have e1 := ih (a.length + 0) (by simp at hn; omega) a [] rfl (good_tail ga) ⟨(fun _ h => by cases h), .nil⟩ (fun z hz => h1 z (List.mem_cons_of_mem _ hz)) (fun _ h => by cases h) (fun z hz hh => h3 z (List.mem_cons_of_mem _ hz) hh) (fun _ h => by cases h)
      rw [diffD, ← e1]
      have em : mergeD (x :: a) [] = x :: mergeD a [] := by cases a <;> simp [mergeD]
      rw [em, List.flatMap_cons, emit, h3 x List.mem_cons_self (fun _ h => by cases h), h1 x List.mem_cons_self]
      rfl
    | x :: a, y :: b =>
      simp only [List.length_cons] at hn
      rw [diffD, mergeD]
      by_cases c1 : cmpN (key x.p) (key y.p) < 0
      · rw [if_pos c1, if_pos c1]
        have nb : ∀ z ∈ y :: b, z.p ≠ x.p := fun z hz => by
          rcases List.mem_cons.1 hz with rfl | hz
          · exact (lt_ne (x := x) (y := z) c1).symm
          · exact (lt_ne (lt_trans (x := x) (y := y) c1 (sub gb z hz))).symm
        have e1 := ih (a.length + (y :: b).length) (by simp; omega) a (y :: b) rfl (good_tail ga) gb (fun z hz => h1 z (List.mem_cons_of_mem _ hz)) h2 (fun z hz hh => h3 z (List.mem_cons_of_mem _ hz) hh) (fun z hz hh => h4 z hz (fun w hw => by
          rcases List.mem_cons.1 hw with rfl | hw
          · exact (nb z hz).symm
          · exact hh w hw))
        rw [List.flatMap_cons, e1, emit, h3 x List.mem_cons_self nb, h1 x List.mem_cons_self]
        rfl
      · rw [if_neg c1, if_neg c1]
        by_cases c2 : 0 < cmpN (key x.p) (key y.p)
        · rw [if_pos c2, if_pos c2]
          have c2' : lt y x := by unfold lt; rw [cmpN_anti]; omega
          have nb : ∀ z ∈ x :: a, z.p ≠ y.p := fun z hz => by
            rcases List.mem_cons.1 hz with rfl | hz
            · exact (lt_ne c2').symm
            · exact (lt_ne (lt_trans c2' (sub ga z hz))).symm
          have e1 := ih ((x :: a).length + b.length) (by simp; omega) (x :: a) b rfl ga (good_tail gb) h1 (fun z hz => h2 z (List.mem_cons_of_mem _ hz)) (fun z hz hh => h3 z hz (fun w hw => by
            rcases List.mem_cons.1 hw with rfl | hw
            · exact (nb z hz).symm
            · exact hh w hw)) (fun z hz hh => h4 z (List.mem_cons_of_mem _ hz) hh)
          rw [List.flatMap_cons, e1, emit, h2 y List.mem_cons_self, h4 y List.mem_cons_self nb]
          rfl
        · rw [if_neg c2, if_neg c2]
          have ek : key x.p = key y.p := cmpN_0 (by omega)
          have ep : x.p = y.p := by rw [← may_path (ga.1 x List.mem_cons_self), ← may_path (gb.1 y List.mem_cons_self), ek]
          have e1 := ih (a.length + b.length) (by omega) a b rfl (good_tail ga) (good_tail gb) (fun z hz => h1 z (List.mem_cons_of_mem _ hz)) (fun z hz => h2 z (List.mem_cons_of_mem _ hz)) (fun z hz hh => h3 z (List.mem_cons_of_mem _ hz) (fun w hw => by
            rcases List.mem_cons.1 hw with rfl | hw
            · rw [← ep]; exact lt_ne (sub ga z hz)
            · exact hh w hw)) (fun z hz hh => h4 z (List.mem_cons_of_mem _ hz) (fun w hw => by
            rcases List.mem_cons.1 hw with rfl | hw
            · rw [ep]; exact lt_ne (sub gb z hz)
            · exact hh w hw))
          rw [List.flatMap_cons, e1, emit, h1 x List.mem_cons_self, ep, h2 y List.mem_cons_self]
          simp only
          split <;> rfl
/-- The reference's: all nodes sorted in, one by one. -/
def insD (n : Nod) : List Nod → List Nod
  | [] => [n]
  | x :: l => if cmpN (key x.p) (key n.p) < 0 then x :: insD n l else n :: x :: l
def sortD (l : List Nod) : List Nod := l.foldl (fun o n => insD n o) []
theorem ins_mem {n z : Nod} : ∀ {l : List Nod}, z ∈ insD n l ↔ z = n ∨ z ∈ l
  | [] => by simp [insD]
  | x :: l => by
    rw [insD]
    split
    · simp only [List.mem_cons, ins_mem (l := l)]
      constructor
      · rintro (h | h | h)
        · exact .inr (.inl h)
        · exact .inl h
        · exact .inr (.inr h)
      · rintro (h | h | h)
        · exact .inr (.inl h)
        · exact .inl h
        · exact .inr (.inr h)
    · simp
theorem ins_sorted {n : Nod} : ∀ {l : List Nod}, l.Pairwise lt → (∀ x ∈ l, cmpN (key x.p) (key n.p) ≠ 0) → (insD n l).Pairwise lt
  | [], _, _ => by simp [insD]
  | x :: l, h, hn => by
    rw [insD]
    obtain ⟨k1, k2⟩ := List.pairwise_cons.1 h
    split
    · rename_i c
      refine .cons (fun z hz => ?_) (ins_sorted k2 fun z hz => hn z (List.mem_cons_of_mem _ hz))
      rcases ins_mem.1 hz with rfl | hz
      · exact c
      · exact k1 z hz
    · rename_i c
      have c' : lt n x := by
        have := hn x List.mem_cons_self
        unfold lt; rw [cmpN_anti]; omega
      refine .cons (fun z hz => ?_) h
      rcases List.mem_cons.1 hz with rfl | hz
      · exact c'
      · exact lt_trans c' (k1 z hz)
theorem sort_aux : ∀ (l o : List Nod), o.Pairwise lt → l.Pairwise (fun x y => cmpN (key x.p) (key y.p) ≠ 0) → (∀ x ∈ o, ∀ y ∈ l, cmpN (key x.p) (key y.p) ≠ 0) →
    (l.foldl (fun o n => insD n o) o).Pairwise lt ∧ ∀ z, z ∈ l.foldl (fun o n => insD n o) o ↔ z ∈ o ∨ z ∈ l
  | [], o, h, _, _ => ⟨h, fun z => by simp⟩
  | n :: l, o, h, hl, ho => by
    obtain ⟨k1, k2⟩ := List.pairwise_cons.1 hl
    rw [List.foldl_cons]
    obtain ⟨r1, r2⟩ := sort_aux l (insD n o) (ins_sorted h fun x hx => ho x hx n List.mem_cons_self) k2 (fun x hx y hy => by
      rcases ins_mem.1 hx with rfl | hx
      · exact k1 y hy
      · exact ho x hx y (List.mem_cons_of_mem _ hy))
    refine ⟨r1, fun z => ?_⟩
    rw [r2, ins_mem, List.mem_cons]
    constructor
    · rintro ((h | h) | h)
      · exact .inr (.inl h)
      · exact .inl h
      · exact .inr (.inr h)
    · rintro (h | h | h)
      · exact .inl (.inr h)
      · exact .inl (.inl h)
      · exact .inr h
theorem sorted_eq : ∀ {l m : List Nod}, l.Pairwise lt → m.Pairwise lt → (∀ z, z ∈ l ↔ z ∈ m) → l = m
  | [], [], _, _, _ => rfl
  | [], y :: m, _, _, h => by have := (h y).2 List.mem_cons_self; cases this
  | x :: l, [], _, _, h => by have := (h x).1 List.mem_cons_self; cases this
  | x :: l, y :: m, hl, hm, h => by
    obtain ⟨a1, a2⟩ := List.pairwise_cons.1 hl
    obtain ⟨b1, b2⟩ := List.pairwise_cons.1 hm
    have e : x = y := by
      rcases List.mem_cons.1 ((h x).1 List.mem_cons_self) with h1 | h1
      · exact h1
      · rcases List.mem_cons.1 ((h y).2 List.mem_cons_self) with h2 | h2
        · exact h2.symm
        · exact absurd (lt_trans (a1 y h2) (b1 x h1)) (lt_irr x)
    subst e
    rw [sorted_eq a2 b2 fun z => ?_]
    constructor
    · intro hz
      rcases List.mem_cons.1 ((h z).1 (List.mem_cons_of_mem _ hz)) with rfl | h1
      · exact absurd (a1 z hz) (lt_irr z)
      · exact h1
    · intro hz
      rcases List.mem_cons.1 ((h z).2 (List.mem_cons_of_mem _ hz)) with rfl | h1
      · exact absurd (b1 z hz) (lt_irr z)
      · exact h1
theorem merge_ok : ∀ (n : Nat) (a b : List Nod), a.length + b.length = n → GoodL a → GoodL b → (mergeD a b).Pairwise lt ∧ ∀ z, z ∈ mergeD a b ↔ z ∈ a ∨ (z ∈ b ∧ ∀ x ∈ a, x.p ≠ z.p) := by
  intro n
  induction n using Nat.strongRecOn with
  | ind n ih =>
    intro a b hn ga gb
    have sub : ∀ {l : List Nod} {x : Nod}, GoodL (x :: l) → ∀ z ∈ l, lt x z := fun h => (List.pairwise_cons.1 h.2).1
    match a, b with
    | [], b => simp only [mergeD]; exact ⟨gb.2, fun z => by simp⟩
    | x :: a, [] => simp only [mergeD]; exact ⟨ga.2, fun z => by simp⟩
    | x :: a, y :: b =>
      simp only [List.length_cons] at hn
      rw [mergeD]
      by_cases c1 : cmpN (key x.p) (key y.p) < 0
      · rw [if_pos c1]
        obtain ⟨r1, r2⟩ := ih (a.length + (y :: b).length) (by simp; omega) a (y :: b) rfl (good_tail ga) gb
        have nb : ∀ z ∈ y :: b, lt x z := fun z hz => by
          rcases List.mem_cons.1 hz with rfl | hz
          · exact c1
          · exact lt_trans (x := x) (y := y) c1 (sub gb z hz)
        refine ⟨.cons (fun z hz => ?_) r1, fun z => ?_⟩
        · rcases (r2 z).1 hz with h | h
          · exact sub ga z h
          · exact nb z h.1
        · rw [List.mem_cons, r2]
          constructor
          · rintro (rfl | h | ⟨h, k⟩)
            · exact .inl List.mem_cons_self
            · exact .inl (List.mem_cons_of_mem _ h)
            · refine .inr ⟨h, fun w hw => ?_⟩
              rcases List.mem_cons.1 hw with rfl | hw
              · exact lt_ne (nb z h)
              · exact k w hw
          · rintro (h | ⟨h, k⟩)
            · rcases List.mem_cons.1 h with rfl | h
              · exact .inl rfl
              · exact .inr (.inl h)
            · exact .inr (.inr ⟨h, fun w hw => k w (List.mem_cons_of_mem _ hw)⟩)
      · rw [if_neg c1]
        by_cases c2 : 0 < cmpN (key x.p) (key y.p)
        · rw [if_pos c2]
          have c2' : lt y x := by unfold lt; rw [cmpN_anti]; omega
          obtain ⟨r1, r2⟩ := ih ((x :: a).length + b.length) (by simp; omega) (x :: a) b rfl ga (good_tail gb)
          have nb : ∀ z ∈ x :: a, lt y z := fun z hz => by
            rcases List.mem_cons.1 hz with rfl | hz
            · exact c2'
            · exact lt_trans c2' (sub ga z hz)
          refine ⟨.cons (fun z hz => ?_) r1, fun z => ?_⟩
          · rcases (r2 z).1 hz with h | h
            · exact nb z h
            · exact sub gb z h.1
          · rw [List.mem_cons, r2]
            constructor
            · rintro (rfl | h | ⟨h, k⟩)
              · exact .inr ⟨List.mem_cons_self, fun w hw => (lt_ne (nb w hw)).symm⟩
              · exact .inl h
              · exact .inr ⟨List.mem_cons_of_mem _ h, k⟩
            · rintro (h | ⟨h, k⟩)
              · exact .inr (.inl h)
              · rcases List.mem_cons.1 h with rfl | h
                · exact .inl rfl
                · exact .inr (.inr ⟨h, k⟩)
        · rw [if_neg c2]
          have ek : key x.p = key y.p := cmpN_0 (by omega)
          have ep : x.p = y.p := by rw [← may_path (ga.1 x List.mem_cons_self), ← may_path (gb.1 y List.mem_cons_self), ek]
          obtain ⟨r1, r2⟩ := ih (a.length + b.length) (by omega) a b rfl (good_tail ga) (good_tail gb)
          refine ⟨.cons (fun z hz => ?_) r1, fun z => ?_⟩
          · rcases (r2 z).1 hz with h | h
            · exact sub ga z h
            · have := sub gb z h.1
              unfold lt at this ⊢; rw [ek]; exact this
          · rw [List.mem_cons, r2]
            constructor
            · rintro (rfl | h | ⟨h, k⟩)
              · exact .inl List.mem_cons_self
              · exact .inl (List.mem_cons_of_mem _ h)
              · refine .inr ⟨List.mem_cons_of_mem _ h, fun w hw => ?_⟩
                rcases List.mem_cons.1 hw with rfl | hw
                · rw [ep]; exact lt_ne (sub gb z h)
                · exact k w hw
            · rintro (h | ⟨h, k⟩)
              · rcases List.mem_cons.1 h with rfl | h
                · exact .inl rfl
                · exact .inr (.inl h)
              · rcases List.mem_cons.1 h with rfl | h
                · exact absurd ep (k x List.mem_cons_self)
                · exact .inr (.inr ⟨h, fun w hw => k w (List.mem_cons_of_mem _ hw)⟩)
def allD (a b : List Nod) : List Nod := a ++ b.filter (fun y => (atP a y.p).isNone)
theorem atP_none {l : List Nod} {p : List UInt8} : (atP l p).isNone = true ↔ ∀ x ∈ l, x.p ≠ p := by
  unfold atP
  rw [Option.isNone_iff_eq_none, List.find?_eq_none]
  constructor
  · intro h x hx; simpa using h x hx
  · intro h x hx; simpa using h x hx
/-- **The two ways to tell differences tell the same.** -/
theorem diff_eq {a b : List Nod} (ga : GoodL a) (gb : GoodL b) : (sortD (allD a b)).flatMap (emit a b) = diffD a b := by
  obtain ⟨m1, m2⟩ := merge_ok _ a b rfl ga gb
  have kne : ∀ {x y : Nod}, mayB x = true → mayB y = true → x.p ≠ y.p → cmpN (key x.p) (key y.p) ≠ 0 := fun hx hy h e => h (by rw [← may_path hx, ← may_path hy, cmpN_0 e])
  have hp : (allD a b).Pairwise (fun x y => cmpN (key x.p) (key y.p) ≠ 0) := by
    unfold allD
    rw [List.pairwise_append]
    refine ⟨ga.2.imp fun h => by unfold lt at h; omega, (gb.2.imp fun {x y} h => by unfold lt at h; omega).sublist List.filter_sublist, fun x hx y hy => ?_⟩
    obtain ⟨y1, y2⟩ := List.mem_filter.1 hy
    exact kne (ga.1 x hx) (gb.1 y y1) (atP_none.1 y2 x hx)
  obtain ⟨s1, s2⟩ := sort_aux (allD a b) [] .nil hp (fun _ h => by cases h)
  have e : sortD (allD a b) = mergeD a b := sorted_eq s1 m1 fun z => by
    refine (s2 z).trans ?_
    rw [m2]
    unfold allD
    rw [List.mem_append, List.mem_filter]
    constructor
    · rintro (h | h | ⟨h, k⟩)
      · cases h
      · exact .inl h
      · exact .inr ⟨h, atP_none.1 k⟩
    · rintro (h | ⟨h, k⟩)
      · exact .inr (.inl h)
      · exact .inr (.inr ⟨h, atP_none.2 k⟩)
  rw [e]
  exact diff_emit a b _ a b rfl ga gb (fun x hx => atP_in ga hx) (fun y hy => atP_in gb hy) (fun x _ h => atP_no h) (fun y _ h => atP_no h)
end Go.Proofs.YtkcpcjhjemedpaaGreatDoor

namespace Go.Proofs.YtkcpcjhjemedpaaGreatDoor
open Go.Sy
set_option maxRecDepth 100000
set_option linter.all false
theorem mixed : Tryz.prog.follows .mixedOrders = true := by kernel_rfl
theorem noEsc (u : Value) (w : World) : (callFunc 51 #[u]).run Tryz.prog w = .ok (.value u) w := by
  rw [run_callFunc_extern Tryz.func51 (by kernel_rfl) (by kernel_rfl) (by kernel_rfl) (e := Extern.AbiNoEscape.same) (by kernel_rfl), Lib.run_noEscape]
  rfl
theorem signB_t {c : UInt8} (h : 97 ≤ c.toNat ∧ c.toNat ≤ 122 ∨ 48 ≤ c.toNat ∧ c.toNat ≤ 57 ∨ c.toNat = 46 ∨ c.toNat = 95) : signB c = true := decide_eq_true h
theorem signB_f {c : UInt8} (h : ¬ (97 ≤ c.toNat ∧ c.toNat ≤ 122 ∨ 48 ≤ c.toNat ∧ c.toNat ≤ 57 ∨ c.toNat = 46 ∨ c.toNat = 95)) : signB c = false := decide_eq_false h
theorem all_snocB {f : UInt8 → Bool} {l : List UInt8} {k : Nat} {c : UInt8} (h : l[k]? = some c) : (l.take (k + 1)).all f = ((l.take k).all f && f c) := by
  rw [take_snoc h, List.all_append]; simp
theorem not_allB {f : UInt8 → Bool} {l : List UInt8} {k : Nat} {c : UInt8} (h : l[k]? = some c) (hc : f c = false) : l.all f = false := by
  rw [List.all_eq_false]
  exact ⟨c, List.mem_of_getElem? h, by simp [hc]⟩
theorem nameB_no {s : List UInt8} (h : ¬ (1 ≤ s.length ∧ s.length ≤ 8 ∧ s ≠ [46] ∧ s ≠ [46, 46])) : nameB s = false := by rw [nameB, decide_eq_false h]; rfl
theorem nameB_all {s : List UInt8} (h : s.all signB = false) : nameB s = false := by rw [nameB, h, Bool.and_false]
theorem nameB_yes {s : List UInt8} (h1 : 1 ≤ s.length) (h2 : s.length ≤ 8) (h3 : ¬ s = [46]) (h4 : ¬ s = [46, 46]) : nameB s = s.all signB := by rw [nameB, decide_eq_true ⟨h1, h2, h3, h4⟩]; rfl
theorem refName_ok (s : List UInt8) : FnC Tryz.prog 50 [.d (.st s)] (.d (.bl (nameB s))) := by
  refine FnC.intro ti_ok Tryz.func50 rfl Tryz.ntmps50 Tryz.call50 rfl (Nat.le_of_ble_eq_true rfl) rfl ?_
  (repeat' ((conv => whnf); first | with_reducible refine Spl.tt ?_ | with_reducible refine Spl.ff ?_ | with_reducible refine draw_auto ti_ok mixed (by decide +kernel) ?_ | with_reducible refine LetI.i64 (by first | omega | (with_unfolding_all exact Nat.le_of_ble_eq_true rfl) | (simp only [List.length_append, List.length_cons, List.length_nil, List.length_map, chunk_length]; omega)) ?_ | with_reducible refine LetI.u64 (by omega) ?_ | with_reducible refine LetI.u8 (by omega) ?_ | with_reducible refine LetI.i64q (by omega) ?_ | with_reducible refine LetI.u64q (by omega) ?_ | with_reducible refine LetI.rem (by omega) ?_ | with_reducible refine LetN.mk ?_ | with_reducible refine at_hm (by assumption) ?_ | with_reducible refine at_hb (by assumption) ?_ | with_reducible refine at_lit (by simp only [List.length_map, List.length_cons, List.length_nil]; omega) (by with_unfolding_all exact rfl) ?_ | with_reducible refine at_natm8 (by omega) (fun x hx hu => ?_) | with_reducible refine at_nat8 (by omega) (fun x hx hu => ?_) | with_reducible refine at_bi8 (by omega) (fun x hx hu => ?_) | with_reducible refine at_natm (by omega) (fun x hx => ?_) | with_reducible refine at_intm (by omega) (fun x hx => ?_) | with_reducible refine at_nat (by omega) (fun x hx => ?_) | with_reducible refine at_bi (by omega) (fun x hx => ?_) | with_reducible refine And.intro (by first | omega | (dsimp only; omega) | (with_unfolding_all exact Nat.le_of_ble_eq_true rfl) | (simp only [List.length_append, List.length_cons, List.length_nil, List.length_map, chunk_length]; omega)) ?_ | with_reducible refine cond_tt (by first | exact rfl | exact (ble_tt (by first | omega | (dsimp only; omega))) | exact (blt_tt (by first | omega | (dsimp only; omega))) | exact band_tt rfl rfl | exact band_tt rfl (ble_tt (by first | omega | (dsimp only; omega))) | exact band_tt rfl (blt_tt (by first | omega | (dsimp only; omega))) | exact band_tt (ble_tt (by first | omega | (dsimp only; omega))) rfl | exact band_tt (ble_tt (by first | omega | (dsimp only; omega))) (ble_tt (by first | omega | (dsimp only; omega))) | exact band_tt (ble_tt (by first | omega | (dsimp only; omega))) (blt_tt (by first | omega | (dsimp only; omega))) | exact band_tt (blt_tt (by first | omega | (dsimp only; omega))) rfl | exact band_tt (blt_tt (by first | omega | (dsimp only; omega))) (ble_tt (by first | omega | (dsimp only; omega))) | exact band_tt (blt_tt (by first | omega | (dsimp only; omega))) (blt_tt (by first | omega | (dsimp only; omega)))) ?_ | with_reducible refine Both.mk ?_ ?_ | with_reducible refine NilS.ts ?_ | with_reducible refine LetE.now ?_ | with_reducible refine at_some (by with_unfolding_all exact rfl) ?_ | with_reducible refine Spl.yes (by decide +kernel) ?_ | with_reducible refine Spl.no (by decide +kernel) ?_ | with_reducible refine Spl.yes (by (first | with_reducible assumption | with_unfolding_all exact rfl | exact dtt (by omega) | exact ett (by omega) | exact ntt (by omega) | exact seq_tt (by with_unfolding_all assumption) | exact sne_tt (by with_unfolding_all assumption))) ?_ | with_reducible refine Spl.no (by (first | with_reducible assumption | with_unfolding_all exact rfl | exact dff (by omega) | exact eff (by omega) | exact nff (by omega) | exact seq_ff (by with_unfolding_all assumption) | exact sne_ff (by with_unfolding_all assumption))) ?_ | with_reducible refine Spl.pd (fun h => ?_) (fun h => ?_) | with_reducible refine Spl.peq (fun h => ?_) (fun h => ?_) | with_reducible refine Spl.pne (fun h => ?_) (fun h => ?_) | with_reducible refine Spl.seq (fun h => ?_) (fun h => ?_) | with_reducible refine Spl.sne (fun h => ?_) (fun h => ?_) | with_reducible refine Spl.nt ?_ | with_reducible refine Spl.mk (fun h => ?_) (fun h => ?_)))
  all_goals first
  | exact bl_eq (nameB_no (by omega)).symm
  | exact bl_eq (nameB_no (fun hh => hh.2.2.1 (by assumption))).symm
  | exact bl_eq (nameB_no (fun hh => hh.2.2.2 (by assumption))).symm
  | skip
  rename_i h1 h2 h3
  rw [nameB_yes (by omega) (by omega) h3 h]
  refine loop_rule ti_ok (fun k : Nat => k ≤ s.length ∧ (s.take k).all signB = true) (fun k => ⟨[(0, .d (.st s)), (3, .d (.it .i64 k))], [], 0⟩) (fun k => s.length - k) 0 ⟨Nat.zero_le _, rfl⟩ ⟨⟨rfl, rfl, trivial⟩, trivial, rfl⟩ ?_
  intro k ⟨hk, ha⟩
  (repeat' ((conv => whnf); first | with_reducible refine Spl.tt ?_ | with_reducible refine Spl.ff ?_ | with_reducible refine draw_auto ti_ok mixed (by decide +kernel) ?_ | with_reducible refine LetI.i64 (by first | omega | (with_unfolding_all exact Nat.le_of_ble_eq_true rfl) | (simp only [List.length_append, List.length_cons, List.length_nil, List.length_map, chunk_length]; omega)) ?_ | with_reducible refine LetI.u64 (by omega) ?_ | with_reducible refine LetI.u8 (by omega) ?_ | with_reducible refine LetI.i64q (by omega) ?_ | with_reducible refine LetI.u64q (by omega) ?_ | with_reducible refine LetI.rem (by omega) ?_ | with_reducible refine LetN.mk ?_ | with_reducible refine at_hm (by assumption) ?_ | with_reducible refine at_hb (by assumption) ?_ | with_reducible refine at_lit (by simp only [List.length_map, List.length_cons, List.length_nil]; omega) (by with_unfolding_all exact rfl) ?_ | with_reducible refine at_natm8 (by omega) (fun x hx hu => ?_) | with_reducible refine at_nat8 (by omega) (fun x hx hu => ?_) | with_reducible refine at_bi8 (by omega) (fun x hx hu => ?_) | with_reducible refine at_natm (by omega) (fun x hx => ?_) | with_reducible refine at_intm (by omega) (fun x hx => ?_) | with_reducible refine at_nat (by omega) (fun x hx => ?_) | with_reducible refine at_bi (by omega) (fun x hx => ?_) | with_reducible refine And.intro (by first | omega | (dsimp only; omega) | (with_unfolding_all exact Nat.le_of_ble_eq_true rfl) | (simp only [List.length_append, List.length_cons, List.length_nil, List.length_map, chunk_length]; omega)) ?_ | with_reducible refine cond_tt (by first | exact rfl | exact (ble_tt (by first | omega | (dsimp only; omega))) | exact (blt_tt (by first | omega | (dsimp only; omega))) | exact band_tt rfl rfl | exact band_tt rfl (ble_tt (by first | omega | (dsimp only; omega))) | exact band_tt rfl (blt_tt (by first | omega | (dsimp only; omega))) | exact band_tt (ble_tt (by first | omega | (dsimp only; omega))) rfl | exact band_tt (ble_tt (by first | omega | (dsimp only; omega))) (ble_tt (by first | omega | (dsimp only; omega))) | exact band_tt (ble_tt (by first | omega | (dsimp only; omega))) (blt_tt (by first | omega | (dsimp only; omega))) | exact band_tt (blt_tt (by first | omega | (dsimp only; omega))) rfl | exact band_tt (blt_tt (by first | omega | (dsimp only; omega))) (ble_tt (by first | omega | (dsimp only; omega))) | exact band_tt (blt_tt (by first | omega | (dsimp only; omega))) (blt_tt (by first | omega | (dsimp only; omega)))) ?_ | with_reducible refine Both.mk ?_ ?_ | with_reducible refine NilS.ts ?_ | with_reducible refine LetE.now ?_ | with_reducible refine at_some (by with_unfolding_all exact rfl) ?_ | with_reducible refine Spl.yes (by decide +kernel) ?_ | with_reducible refine Spl.no (by decide +kernel) ?_ | with_reducible refine Spl.yes (by (first | with_reducible assumption | with_unfolding_all exact rfl | exact dtt (by omega) | exact ett (by omega) | exact ntt (by omega) | exact seq_tt (by with_unfolding_all assumption) | exact sne_tt (by with_unfolding_all assumption))) ?_ | with_reducible refine Spl.no (by (first | with_reducible assumption | with_unfolding_all exact rfl | exact dff (by omega) | exact eff (by omega) | exact nff (by omega) | exact seq_ff (by with_unfolding_all assumption) | exact sne_ff (by with_unfolding_all assumption))) ?_ | with_reducible refine Spl.pd (fun h => ?_) (fun h => ?_) | with_reducible refine Spl.peq (fun h => ?_) (fun h => ?_) | with_reducible refine Spl.pne (fun h => ?_) (fun h => ?_) | with_reducible refine Spl.seq (fun h => ?_) (fun h => ?_) | with_reducible refine Spl.sne (fun h => ?_) (fun h => ?_) | with_reducible refine Spl.nt ?_ | with_reducible refine Spl.mk (fun h => ?_) (fun h => ?_)))
  all_goals first
  | exact bl_eq (not_allB hx (signB_f (by omega))).symm
  | (refine again (k + 1) ⟨by omega, by rw [all_snocB hx, ha, signB_t (by omega)]; rfl⟩ (by dsimp only; omega) (And.intro rfl (And.intro rfl trivial)) trivial rfl)
  | (obtain rfl : k = s.length := by omega
     rw [List.take_length] at ha
     exact bl_eq ha.symm)
def plainB (c : UInt8) : Bool := decide (32 ≤ c.toNat ∧ c.toNat ≤ 126 ∧ c.toNat ≠ 34 ∧ c.toNat ≠ 92)
theorem plain_ok (c : UInt8) : FnC Tryz.prog 64 [.d (.it .u8 c.toNat)] (.d (.bl (plainB c))) := by
  refine FnC.intro ti_ok Tryz.func64 rfl Tryz.ntmps64 Tryz.call64 rfl (Nat.le_of_ble_eq_true rfl) rfl ?_
  (repeat' ((conv => whnf); first | with_reducible refine Spl.tt ?_ | with_reducible refine Spl.ff ?_ | with_reducible refine draw_auto ti_ok mixed (by decide +kernel) ?_ | with_reducible refine LetI.i64 (by first | omega | (with_unfolding_all exact Nat.le_of_ble_eq_true rfl) | (simp only [List.length_append, List.length_cons, List.length_nil, List.length_map, chunk_length]; omega)) ?_ | with_reducible refine LetI.u64 (by omega) ?_ | with_reducible refine LetI.u8 (by omega) ?_ | with_reducible refine LetI.i64q (by omega) ?_ | with_reducible refine LetI.u64q (by omega) ?_ | with_reducible refine LetI.rem (by omega) ?_ | with_reducible refine LetN.mk ?_ | with_reducible refine at_hm (by assumption) ?_ | with_reducible refine at_hb (by assumption) ?_ | with_reducible refine at_lit (by simp only [List.length_map, List.length_cons, List.length_nil]; omega) (by with_unfolding_all exact rfl) ?_ | with_reducible refine at_natm8 (by omega) (fun x hx hu => ?_) | with_reducible refine at_nat8 (by omega) (fun x hx hu => ?_) | with_reducible refine at_bi8 (by omega) (fun x hx hu => ?_) | with_reducible refine at_natm (by omega) (fun x hx => ?_) | with_reducible refine at_intm (by omega) (fun x hx => ?_) | with_reducible refine at_nat (by omega) (fun x hx => ?_) | with_reducible refine at_bi (by omega) (fun x hx => ?_) | with_reducible refine And.intro (by first | omega | (dsimp only; omega) | (with_unfolding_all exact Nat.le_of_ble_eq_true rfl) | (simp only [List.length_append, List.length_cons, List.length_nil, List.length_map, chunk_length]; omega)) ?_ | with_reducible refine cond_tt (by first | exact rfl | exact (ble_tt (by first | omega | (dsimp only; omega))) | exact (blt_tt (by first | omega | (dsimp only; omega))) | exact band_tt rfl rfl | exact band_tt rfl (ble_tt (by first | omega | (dsimp only; omega))) | exact band_tt rfl (blt_tt (by first | omega | (dsimp only; omega))) | exact band_tt (ble_tt (by first | omega | (dsimp only; omega))) rfl | exact band_tt (ble_tt (by first | omega | (dsimp only; omega))) (ble_tt (by first | omega | (dsimp only; omega))) | exact band_tt (ble_tt (by first | omega | (dsimp only; omega))) (blt_tt (by first | omega | (dsimp only; omega))) | exact band_tt (blt_tt (by first | omega | (dsimp only; omega))) rfl | exact band_tt (blt_tt (by first | omega | (dsimp only; omega))) (ble_tt (by first | omega | (dsimp only; omega))) | exact band_tt (blt_tt (by first | omega | (dsimp only; omega))) (blt_tt (by first | omega | (dsimp only; omega)))) ?_ | with_reducible refine Both.mk ?_ ?_ | with_reducible refine NilS.ts ?_ | with_reducible refine LetE.now ?_ | with_reducible refine at_some (by with_unfolding_all exact rfl) ?_ | with_reducible refine Spl.yes (by decide +kernel) ?_ | with_reducible refine Spl.no (by decide +kernel) ?_ | with_reducible refine Spl.yes (by (first | with_reducible assumption | with_unfolding_all exact rfl | exact dtt (by omega) | exact ett (by omega) | exact ntt (by omega) | exact seq_tt (by with_unfolding_all assumption) | exact sne_tt (by with_unfolding_all assumption))) ?_ | with_reducible refine Spl.no (by (first | with_reducible assumption | with_unfolding_all exact rfl | exact dff (by omega) | exact eff (by omega) | exact nff (by omega) | exact seq_ff (by with_unfolding_all assumption) | exact sne_ff (by with_unfolding_all assumption))) ?_ | with_reducible refine Spl.pd (fun h => ?_) (fun h => ?_) | with_reducible refine Spl.peq (fun h => ?_) (fun h => ?_) | with_reducible refine Spl.pne (fun h => ?_) (fun h => ?_) | with_reducible refine Spl.seq (fun h => ?_) (fun h => ?_) | with_reducible refine Spl.sne (fun h => ?_) (fun h => ?_) | with_reducible refine Spl.nt ?_ | with_reducible refine Spl.mk (fun h => ?_) (fun h => ?_)))
  all_goals (conv => whnf)
  all_goals (refine bl_eq ?_)
  all_goals (unfold plainB)
  all_goals first | exact (decide_eq_true (by omega)).symm | exact (decide_eq_false (by omega)).symm | (by_cases h92 : (c.toNat : Int) = 92 <;> first | (rw [nff h92]; exact (decide_eq_false (by omega)).symm) | (rw [ntt h92]; exact (decide_eq_true (by omega)).symm))
def signs : List UInt8 := [97, 98, 99, 100, 101, 102, 103, 104, 105, 106, 107, 108, 109, 110, 111, 112, 113, 114, 115, 116, 117, 118, 119, 120, 121, 122, 48, 49, 50, 51, 52, 53, 54, 55, 56, 57, 46, 95]
def tabS (l : List UInt8) : List D := (List.range 256).map fun j => .bl (l.any fun c => c.toNat == j)
theorem all_d (l : List D) (m : Nat) : (l.map AV.d).all (AV.lt1 m) = true := by
  rw [List.all_eq_true]
  intro x hx
  obtain ⟨b, _, rfl⟩ := List.mem_map.1 hx
  rfl
theorem tabS_upd {l : List UInt8} {c : UInt8} : ((tabS l).map AV.d).take c.toNat ++ [AV.d (.bl true)] ++ ((tabS l).map AV.d).drop (c.toNat + 1) = (tabS (l ++ [c])).map AV.d := by
  have hc := c.toNat_lt
  apply List.ext_getElem
  · simp [tabS]; omega
  · intro i h1 h2
    simp only [tabS, List.length_map, List.length_range] at h2
    rcases Nat.lt_trichotomy i c.toNat with h | h | h
    · rw [List.getElem_append_left (by simp [tabS]; omega), List.getElem_append_left (by simp [tabS]; omega)]
      simp [tabS, show ¬ c.toNat = i by omega]
    · subst h
      rw [List.getElem_append_left (by simp [tabS]; omega), List.getElem_append_right (by simp [tabS]; omega)]
      simp [tabS]
    · rw [List.getElem_append_right (by simp [tabS]; omega)]
      simp [tabS, show ¬ c.toNat = i by omega, show c.toNat + 1 + (i - (min c.toNat 256 + 1)) = i by omega]
theorem makeSet_ok : FnC Tryz.prog 76 [.d (.st signs)] (.tup [.dg 256 (tabS signs), .d (.bl true)]) := by
  refine FnC.intro ti_ok Tryz.func76 rfl Tryz.ntmps76 Tryz.call76 rfl (Nat.le_of_ble_eq_true rfl) rfl ?_
  (repeat' ((conv => whnf); first | with_reducible refine Spl.tt ?_ | with_reducible refine Spl.ff ?_ | with_reducible refine draw_auto ti_ok mixed (by decide +kernel) ?_ | with_reducible refine LetI.i64 (by first | omega | (with_unfolding_all exact Nat.le_of_ble_eq_true rfl) | (simp only [List.length_append, List.length_cons, List.length_nil, List.length_map, chunk_length]; omega)) ?_ | with_reducible refine LetI.u64 (by omega) ?_ | with_reducible refine LetI.u8 (by omega) ?_ | with_reducible refine LetI.i64q (by omega) ?_ | with_reducible refine LetI.u64q (by omega) ?_ | with_reducible refine LetI.rem (by omega) ?_ | with_reducible refine LetN.mk ?_ | with_reducible refine at_hm (by assumption) ?_ | with_reducible refine at_hb (by assumption) ?_ | with_reducible refine at_lit (by simp only [List.length_map, List.length_cons, List.length_nil]; omega) (by with_unfolding_all exact rfl) ?_ | with_reducible refine at_natm8 (by omega) (fun x hx hu => ?_) | with_reducible refine at_nat8 (by omega) (fun x hx hu => ?_) | with_reducible refine at_bi8 (by omega) (fun x hx hu => ?_) | with_reducible refine at_natm (by omega) (fun x hx => ?_) | with_reducible refine at_intm (by omega) (fun x hx => ?_) | with_reducible refine at_nat (by omega) (fun x hx => ?_) | with_reducible refine at_bi (by omega) (fun x hx => ?_) | with_reducible refine And.intro (by first | omega | (dsimp only; omega) | (with_unfolding_all exact Nat.le_of_ble_eq_true rfl) | (simp only [List.length_append, List.length_cons, List.length_nil, List.length_map, chunk_length]; omega)) ?_ | with_reducible refine cond_tt (by first | exact rfl | exact (ble_tt (by first | omega | (dsimp only; omega))) | exact (blt_tt (by first | omega | (dsimp only; omega))) | exact band_tt rfl rfl | exact band_tt rfl (ble_tt (by first | omega | (dsimp only; omega))) | exact band_tt rfl (blt_tt (by first | omega | (dsimp only; omega))) | exact band_tt (ble_tt (by first | omega | (dsimp only; omega))) rfl | exact band_tt (ble_tt (by first | omega | (dsimp only; omega))) (ble_tt (by first | omega | (dsimp only; omega))) | exact band_tt (ble_tt (by first | omega | (dsimp only; omega))) (blt_tt (by first | omega | (dsimp only; omega))) | exact band_tt (blt_tt (by first | omega | (dsimp only; omega))) rfl | exact band_tt (blt_tt (by first | omega | (dsimp only; omega))) (ble_tt (by first | omega | (dsimp only; omega))) | exact band_tt (blt_tt (by first | omega | (dsimp only; omega))) (blt_tt (by first | omega | (dsimp only; omega)))) ?_ | with_reducible refine Both.mk ?_ ?_ | with_reducible refine NilS.ts ?_ | with_reducible refine LetE.now ?_ | with_reducible refine at_some (by with_unfolding_all exact rfl) ?_ | with_reducible refine Spl.yes (by decide +kernel) ?_ | with_reducible refine Spl.no (by decide +kernel) ?_ | with_reducible refine Spl.yes (by (first | with_reducible assumption | with_unfolding_all exact rfl | exact dtt (by omega) | exact ett (by omega) | exact ntt (by omega) | exact seq_tt (by with_unfolding_all assumption) | exact sne_tt (by with_unfolding_all assumption))) ?_ | with_reducible refine Spl.no (by (first | with_reducible assumption | with_unfolding_all exact rfl | exact dff (by omega) | exact eff (by omega) | exact nff (by omega) | exact seq_ff (by with_unfolding_all assumption) | exact sne_ff (by with_unfolding_all assumption))) ?_ | with_reducible refine Spl.pd (fun h => ?_) (fun h => ?_) | with_reducible refine Spl.peq (fun h => ?_) (fun h => ?_) | with_reducible refine Spl.pne (fun h => ?_) (fun h => ?_) | with_reducible refine Spl.seq (fun h => ?_) (fun h => ?_) | with_reducible refine Spl.sne (fun h => ?_) (fun h => ?_) | with_reducible refine Spl.nt ?_ | with_reducible refine Spl.mk (fun h => ?_) (fun h => ?_)))
  refine loop_rule ti_ok (fun k : Nat => k ≤ signs.length) (fun k => ⟨[(0, .d (.st signs)), (2, .ptr 0 0), (4, .d (.it .i64 k))], [(0, .cells 256 ((tabS (signs.take k)).map .d))], 1⟩) (fun k => signs.length - k) 0 (Nat.zero_le _) ⟨⟨rfl, rfl, rfl, trivial⟩, ⟨?_, trivial⟩, ?_⟩ ?_
  · refine cells_eq rfl (by kernel_rfl)
  · simp only [S.ok, List.all_cons, List.all_nil, Ob.lt, all_d]; rfl
  have hlow : ∀ c ∈ signs, c.toNat < 128 := by decide
  have hl38 : signs.length = 38 := rfl
  intro k hk
  (repeat' ((conv => whnf); first | with_reducible refine Spl.tt ?_ | with_reducible refine Spl.ff ?_ | with_reducible refine draw_auto ti_ok mixed (by decide +kernel) ?_ | with_reducible refine LetI.i64 (by first | omega | (with_unfolding_all exact Nat.le_of_ble_eq_true rfl) | (simp only [List.length_append, List.length_cons, List.length_nil, List.length_map, chunk_length]; omega)) ?_ | with_reducible refine LetI.u64 (by omega) ?_ | with_reducible refine LetI.u8 (by omega) ?_ | with_reducible refine LetI.i64q (by omega) ?_ | with_reducible refine LetI.u64q (by omega) ?_ | with_reducible refine LetI.rem (by omega) ?_ | with_reducible refine LetN.mk ?_ | with_reducible refine at_hm (by assumption) ?_ | with_reducible refine at_hb (by assumption) ?_ | with_reducible refine at_lit (by simp only [List.length_map, List.length_cons, List.length_nil]; omega) (by with_unfolding_all exact rfl) ?_ | with_reducible refine at_natm8 (by omega) (fun x hx hu => ?_) | with_reducible refine at_nat8 (by omega) (fun x hx hu => ?_) | with_reducible refine at_bi8 (by omega) (fun x hx hu => ?_) | with_reducible refine at_natm (by omega) (fun x hx => ?_) | with_reducible refine at_intm (by omega) (fun x hx => ?_) | with_reducible refine at_nat (by omega) (fun x hx => ?_) | with_reducible refine at_bi (by omega) (fun x hx => ?_) | with_reducible refine And.intro (by first | omega | (dsimp only; omega) | (with_unfolding_all exact Nat.le_of_ble_eq_true rfl) | (simp only [List.length_append, List.length_cons, List.length_nil, List.length_map, chunk_length]; omega)) ?_ | with_reducible refine cond_tt (by first | exact rfl | exact (ble_tt (by first | omega | (dsimp only; omega))) | exact (blt_tt (by first | omega | (dsimp only; omega))) | exact band_tt rfl rfl | exact band_tt rfl (ble_tt (by first | omega | (dsimp only; omega))) | exact band_tt rfl (blt_tt (by first | omega | (dsimp only; omega))) | exact band_tt (ble_tt (by first | omega | (dsimp only; omega))) rfl | exact band_tt (ble_tt (by first | omega | (dsimp only; omega))) (ble_tt (by first | omega | (dsimp only; omega))) | exact band_tt (ble_tt (by first | omega | (dsimp only; omega))) (blt_tt (by first | omega | (dsimp only; omega))) | exact band_tt (blt_tt (by first | omega | (dsimp only; omega))) rfl | exact band_tt (blt_tt (by first | omega | (dsimp only; omega))) (ble_tt (by first | omega | (dsimp only; omega))) | exact band_tt (blt_tt (by first | omega | (dsimp only; omega))) (blt_tt (by first | omega | (dsimp only; omega)))) ?_ | with_reducible refine Both.mk ?_ ?_ | with_reducible refine NilS.ts ?_ | with_reducible refine LetE.now ?_ | with_reducible refine at_some (by with_unfolding_all exact rfl) ?_ | with_reducible refine Spl.yes (by decide +kernel) ?_ | with_reducible refine Spl.no (by decide +kernel) ?_ | with_reducible refine Spl.yes (by (first | with_reducible assumption | with_unfolding_all exact rfl | exact dtt (by omega) | exact ett (by omega) | exact ntt (by omega) | exact seq_tt (by with_unfolding_all assumption) | exact sne_tt (by with_unfolding_all assumption))) ?_ | with_reducible refine Spl.no (by (first | with_reducible assumption | with_unfolding_all exact rfl | exact dff (by omega) | exact eff (by omega) | exact nff (by omega) | exact seq_ff (by with_unfolding_all assumption) | exact sne_ff (by with_unfolding_all assumption))) ?_ | with_reducible refine Spl.pd (fun h => ?_) (fun h => ?_) | with_reducible refine Spl.peq (fun h => ?_) (fun h => ?_) | with_reducible refine Spl.pne (fun h => ?_) (fun h => ?_) | with_reducible refine Spl.seq (fun h => ?_) (fun h => ?_) | with_reducible refine Spl.sne (fun h => ?_) (fun h => ?_) | with_reducible refine Spl.nt ?_ | with_reducible refine Spl.mk (fun h => ?_) (fun h => ?_)))
  · have := hlow x (List.mem_of_getElem? hx); omega
  · refine again (k + 1) (by omega) (by dsimp only; omega) (And.intro rfl (And.intro rfl (And.intro rfl trivial))) (And.intro (cells_eq rfl ?_) trivial) ?_
    · rw [take_snoc hx, ← tabS_upd]
      simp only [Nat.zero_add, Int.toNat_natCast, Nat.mul_one]; rfl
    · simp only [S.ok, List.all_cons, List.all_nil, Ob.lt, all_d]; rfl
  · obtain rfl : k = signs.length := by omega
    (repeat' ((conv => whnf); first | with_reducible refine Spl.tt ?_ | with_reducible refine Spl.ff ?_ | with_reducible refine AtA.mk' ?_ | with_reducible refine draw_auto ti_ok mixed (by decide +kernel) ?_ | with_reducible refine LetI.i64 (by first | omega | (with_unfolding_all exact Nat.le_of_ble_eq_true rfl) | (simp only [List.length_append, List.length_cons, List.length_nil, List.length_map, chunk_length]; omega)) ?_ | with_reducible refine LetI.u64 (by omega) ?_ | with_reducible refine LetI.u8 (by omega) ?_ | with_reducible refine LetI.i64q (by omega) ?_ | with_reducible refine LetI.u64q (by omega) ?_ | with_reducible refine LetI.rem (by omega) ?_ | with_reducible refine LetN.mk ?_ | with_reducible refine at_hm (by assumption) ?_ | with_reducible refine at_hb (by assumption) ?_ | with_reducible refine at_lit (by simp only [List.length_map, List.length_cons, List.length_nil]; omega) (by with_unfolding_all exact rfl) ?_ | with_reducible refine at_natm8 (by omega) (fun x hx hu => ?_) | with_reducible refine at_nat8 (by omega) (fun x hx hu => ?_) | with_reducible refine at_bi8 (by omega) (fun x hx hu => ?_) | with_reducible refine at_natm (by omega) (fun x hx => ?_) | with_reducible refine at_intm (by omega) (fun x hx => ?_) | with_reducible refine at_nat (by omega) (fun x hx => ?_) | with_reducible refine at_bi (by omega) (fun x hx => ?_) | with_reducible refine And.intro (by first | omega | (dsimp only; omega) | (with_unfolding_all exact Nat.le_of_ble_eq_true rfl) | (simp only [List.length_append, List.length_cons, List.length_nil, List.length_map, chunk_length]; omega)) ?_ | with_reducible refine cond_tt (by first | exact rfl | exact (ble_tt (by first | omega | (dsimp only; omega))) | exact (blt_tt (by first | omega | (dsimp only; omega))) | exact band_tt rfl rfl | exact band_tt rfl (ble_tt (by first | omega | (dsimp only; omega))) | exact band_tt rfl (blt_tt (by first | omega | (dsimp only; omega))) | exact band_tt (ble_tt (by first | omega | (dsimp only; omega))) rfl | exact band_tt (ble_tt (by first | omega | (dsimp only; omega))) (ble_tt (by first | omega | (dsimp only; omega))) | exact band_tt (ble_tt (by first | omega | (dsimp only; omega))) (blt_tt (by first | omega | (dsimp only; omega))) | exact band_tt (blt_tt (by first | omega | (dsimp only; omega))) rfl | exact band_tt (blt_tt (by first | omega | (dsimp only; omega))) (ble_tt (by first | omega | (dsimp only; omega))) | exact band_tt (blt_tt (by first | omega | (dsimp only; omega))) (blt_tt (by first | omega | (dsimp only; omega)))) ?_ | with_reducible refine Both.mk ?_ ?_ | with_reducible refine NilS.ts ?_ | with_reducible refine LetE.now ?_ | with_reducible refine at_some (by with_unfolding_all exact rfl) ?_ | with_reducible refine Spl.yes (by decide +kernel) ?_ | with_reducible refine Spl.no (by decide +kernel) ?_ | with_reducible refine Spl.yes (by (first | with_reducible assumption | with_unfolding_all exact rfl | exact dtt (by omega) | exact ett (by omega) | exact ntt (by omega) | exact seq_tt (by with_unfolding_all assumption) | exact sne_tt (by with_unfolding_all assumption))) ?_ | with_reducible refine Spl.no (by (first | with_reducible assumption | with_unfolding_all exact rfl | exact dff (by omega) | exact eff (by omega) | exact nff (by omega) | exact seq_ff (by with_unfolding_all assumption) | exact sne_ff (by with_unfolding_all assumption))) ?_ | with_reducible refine Spl.pd (fun h => ?_) (fun h => ?_) | with_reducible refine Spl.peq (fun h => ?_) (fun h => ?_) | with_reducible refine Spl.pne (fun h => ?_) (fun h => ?_) | with_reducible refine Spl.seq (fun h => ?_) (fun h => ?_) | with_reducible refine Spl.sne (fun h => ?_) (fun h => ?_) | with_reducible refine Spl.nt ?_ | with_reducible refine Spl.mk (fun h => ?_) (fun h => ?_)))
    rfl
end Go.Proofs.YtkcpcjhjemedpaaGreatDoor

namespace Go.Proofs.YtkcpcjhjemedpaaGreatDoor
open Go.Sy
set_option maxRecDepth 100000
set_option linter.all false
def trimR (s : List UInt8) : List UInt8 := (s.reverse.dropWhile signB).reverse
def trimS (s : List UInt8) : List UInt8 := (trimR s).dropWhile signB
theorem tab_get (c : UInt8) : ((tabS signs).map AV.d).getD c.toNat .junk = .d (.bl (signB c)) := by
  have : ∀ n, n < 256 → (signs.any fun c => c.toNat == n) = decide (97 ≤ n ∧ n ≤ 122 ∨ 48 ≤ n ∧ n ≤ 57 ∨ n = 46 ∨ n = 95) := by decide +kernel
  have hc := c.toNat_lt
  rw [List.getD, List.getElem?_eq_getElem (by simp [tabS]; omega)]
  simp only [tabS, List.getElem_map, List.getElem_range, Option.getD_some, signB]
  rw [this _ (by omega)]
theorem tab_ld {tab : List D} (ht : tab = tabS signs) (off : Nat) (c : UInt8) (h : off = c.toNat) : ldA ⟨.bool, 1, 1, [.bl false], some [.bl false], []⟩ off (List.map AV.d tab) = .d (.bl (signB c)) := by
  subst h ht
  have := tab_get c
  simpa [ldA, Kd.agg] using this
theorem trimR_0 {s t : List UInt8} (h : s = [] ++ t) (ht : t.all signB = true) : trimR s = [] := by
  subst h
  have key : ∀ l : List UInt8, l.all signB = true → l.dropWhile signB = [] := by
    intro l
    induction l with
    | nil => intro _; rfl
    | cons a l ih =>
      intro h
      rw [List.all_cons, Bool.and_eq_true] at h
      rw [List.dropWhile_cons_of_pos h.1, ih h.2]
  rw [trimR, List.reverse_eq_nil_iff]
  exact key _ (by rw [List.all_reverse]; simpa using ht)
theorem trimR_1 {s r t : List UInt8} {c : UInt8} (h : s = (r ++ [c]) ++ t) (ht : t.all signB = true) (hc : signB c = false) : trimR s = r ++ [c] := by
  subst h
  have e : ((r ++ [c]) ++ t).reverse = t.reverse ++ c :: r.reverse := by simp
  rw [trimR, e, List.dropWhile_append_of_pos (fun x hx => List.all_eq_true.1 ht x (List.mem_reverse.1 hx)), List.dropWhile_cons_of_neg (by simp [hc])]
  simp
theorem last_split {r : List UInt8} {x : UInt8} (h : r[r.length - 1]? = some x) : r = r.take (r.length - 1) ++ [x] := by
  have hl : r.length - 1 < r.length := by
    obtain ⟨hk, _⟩ := List.getElem?_eq_some_iff.1 h
    exact hk
  rw [← take_snoc h, show r.length - 1 + 1 = r.length by omega, List.take_length]
theorem cons_drop {u : List UInt8} {x : UInt8} (h : u[(0 : Int).toNat]? = some x) : u = [x] ++ u.drop 1 := by
  cases u with
  | nil => cases h
  | cons a u => obtain rfl : a = x := Option.some.inj h; rfl
theorem dropW_1 {r t u : List UInt8} {x : UInt8} (h : r = t ++ u) (ht : t.all signB = true) (hx : u[(0 : Int).toNat]? = some x) (hc : signB x = false) : r.dropWhile signB = u := by
  rw [h, List.dropWhile_append_of_pos (fun x hx => List.all_eq_true.1 ht x hx), cons_drop hx]
  exact List.dropWhile_cons_of_neg (by simp [hc])
theorem dropW_0 {r t u : List UInt8} (h : r = t ++ u) (ht : t.all signB = true) (hu : u.length = 0) : r.dropWhile signB = u := by
  obtain rfl := List.length_eq_zero_iff.1 hu
  rw [h, List.dropWhile_append_of_pos (fun x hx => List.all_eq_true.1 ht x hx)]; rfl
theorem trim_ok (s : List UInt8) (h0 : s ≠ []) (hs : s.length ≤ 1000000) : FnC Tryz.prog 60 [.d (.st s), .d (.st signs)] (.d (.st (trimS s))) := by
  refine FnC.intro ti_ok Tryz.func60 rfl Tryz.ntmps60 Tryz.call60 rfl (Nat.le_of_ble_eq_true rfl) rfl ?_
  obtain ⟨tab, ht⟩ : ∃ t, t = tabS signs := ⟨_, rfl⟩
  have hm := makeSet_ok
  rw [← ht] at hm
  (repeat' ((conv => whnf); first | with_reducible refine Spl.tt ?_ | with_reducible refine Spl.ff ?_ | with_reducible refine CallE.con ⟨_, hm, ?_⟩ | with_reducible refine CallI.inl ti_ok i78 rfl ?_ | with_reducible refine draw_auto ti_ok mixed (by decide +kernel) ?_ | with_reducible refine LetI.i64 (by first | omega | (with_unfolding_all exact Nat.le_of_ble_eq_true rfl) | (simp only [List.length_append, List.length_cons, List.length_nil, List.length_map, chunk_length]; omega)) ?_ | with_reducible refine LetI.u64 (by omega) ?_ | with_reducible refine LetI.u8 (by omega) ?_ | with_reducible refine LetI.i64q (by omega) ?_ | with_reducible refine LetI.u64q (by omega) ?_ | with_reducible refine LetI.rem (by omega) ?_ | with_reducible refine LetN.mk ?_ | with_reducible refine at_hm (by assumption) ?_ | with_reducible refine at_hb (by assumption) ?_ | with_reducible refine at_lit (by simp only [List.length_map, List.length_cons, List.length_nil]; omega) (by with_unfolding_all exact rfl) ?_ | with_reducible refine at_natm8 (by omega) (fun x hx hu => ?_) | with_reducible refine at_nat8 (by omega) (fun x hx hu => ?_) | with_reducible refine at_bi8 (by omega) (fun x hx hu => ?_) | with_reducible refine at_natm (by omega) (fun x hx => ?_) | with_reducible refine at_intm (by omega) (fun x hx => ?_) | with_reducible refine at_nat (by omega) (fun x hx => ?_) | with_reducible refine at_bi (by omega) (fun x hx => ?_) | with_reducible refine And.intro (by first | omega | (dsimp only; omega) | (with_unfolding_all exact Nat.le_of_ble_eq_true rfl) | (simp only [List.length_append, List.length_cons, List.length_nil, List.length_map, chunk_length]; omega)) ?_ | with_reducible refine cond_tt (by first | exact rfl | exact (ble_tt (by first | omega | (dsimp only; omega))) | exact (blt_tt (by first | omega | (dsimp only; omega))) | exact band_tt rfl rfl | exact band_tt rfl (ble_tt (by first | omega | (dsimp only; omega))) | exact band_tt rfl (blt_tt (by first | omega | (dsimp only; omega))) | exact band_tt (ble_tt (by first | omega | (dsimp only; omega))) rfl | exact band_tt (ble_tt (by first | omega | (dsimp only; omega))) (ble_tt (by first | omega | (dsimp only; omega))) | exact band_tt (ble_tt (by first | omega | (dsimp only; omega))) (blt_tt (by first | omega | (dsimp only; omega))) | exact band_tt (blt_tt (by first | omega | (dsimp only; omega))) rfl | exact band_tt (blt_tt (by first | omega | (dsimp only; omega))) (ble_tt (by first | omega | (dsimp only; omega))) | exact band_tt (blt_tt (by first | omega | (dsimp only; omega))) (blt_tt (by first | omega | (dsimp only; omega)))) ?_ | with_reducible refine Both.mk ?_ ?_ | with_reducible refine NilS.ts ?_ | with_reducible refine LetE.now ?_ | with_reducible refine at_some (by with_unfolding_all exact rfl) ?_ | with_reducible refine Spl.yes (by decide +kernel) ?_ | with_reducible refine Spl.no (by decide +kernel) ?_ | with_reducible refine Spl.yes (by (first | with_reducible assumption | with_unfolding_all exact rfl | exact dtt (by omega) | exact ett (by omega) | exact ntt (by omega) | exact seq_tt (by with_unfolding_all assumption) | exact sne_tt (by with_unfolding_all assumption))) ?_ | with_reducible refine Spl.no (by (first | with_reducible assumption | with_unfolding_all exact rfl | exact dff (by omega) | exact eff (by omega) | exact nff (by omega) | exact seq_ff (by with_unfolding_all assumption) | exact sne_ff (by with_unfolding_all assumption))) ?_ | with_reducible refine Spl.pd (fun h => ?_) (fun h => ?_) | with_reducible refine Spl.peq (fun h => ?_) (fun h => ?_) | with_reducible refine Spl.pne (fun h => ?_) (fun h => ?_) | with_reducible refine Spl.seq (fun h => ?_) (fun h => ?_) | with_reducible refine Spl.sne (fun h => ?_) (fun h => ?_) | with_reducible refine Spl.nt ?_ | with_reducible refine Spl.mk (fun h => ?_) (fun h => ?_)))
  refine loop_mem ti_ok (fun r : List UInt8 => ∃ t, s = r ++ t ∧ t.all signB = true) (fun r => [(0, .d (.st r)), (1, .ptr 0 0)]) (fun _ => [(0, .cells 256 (tab.map .d))]) [0] (fun r => r.length) s ⟨[], by simp, rfl⟩ ⟨rfl, rfl, trivial⟩ ⟨cells_eq rfl (by rw [show List.drop (0 + 256) _ = [] from rfl, List.append_nil]; rfl), entL_nub _ _⟩ rfl (by simp only [List.all_cons, List.all_nil, Ob.lt, all_d]; rfl) ?_
  intro r ⟨t, hr, ha⟩
  have hrl : r.length + t.length = s.length := by rw [hr, List.length_append]
  (repeat' ((conv => whnf); first | with_reducible refine Spl.tt ?_ | with_reducible refine Spl.ff ?_ | with_reducible refine CallI.inl ti_ok i88 rfl ?_ | with_reducible refine AtA.eq (by with_unfolding_all exact tab_ld ht _ x (by first | omega | (dsimp only; omega) | simp)) ?_ | with_reducible refine draw_auto ti_ok mixed (by decide +kernel) ?_ | with_reducible refine LetI.i64 (by first | omega | (with_unfolding_all exact Nat.le_of_ble_eq_true rfl) | (simp only [List.length_append, List.length_cons, List.length_nil, List.length_map, chunk_length]; omega)) ?_ | with_reducible refine LetI.u64 (by omega) ?_ | with_reducible refine LetI.u8 (by omega) ?_ | with_reducible refine LetI.i64q (by omega) ?_ | with_reducible refine LetI.u64q (by omega) ?_ | with_reducible refine LetI.rem (by omega) ?_ | with_reducible refine LetN.mk ?_ | with_reducible refine at_hm (by assumption) ?_ | with_reducible refine at_hb (by assumption) ?_ | with_reducible refine at_lit (by simp only [List.length_map, List.length_cons, List.length_nil]; omega) (by with_unfolding_all exact rfl) ?_ | with_reducible refine at_natm8 (by omega) (fun x hx hu => ?_) | with_reducible refine at_nat8 (by omega) (fun x hx hu => ?_) | with_reducible refine at_bi8 (by omega) (fun x hx hu => ?_) | with_reducible refine at_natm (by omega) (fun x hx => ?_) | with_reducible refine at_intm (by omega) (fun x hx => ?_) | with_reducible refine at_nat (by omega) (fun x hx => ?_) | with_reducible refine at_bi (by omega) (fun x hx => ?_) | with_reducible refine And.intro (by first | omega | (dsimp only; omega) | (with_unfolding_all exact Nat.le_of_ble_eq_true rfl) | (simp only [List.length_append, List.length_cons, List.length_nil, List.length_map, chunk_length]; omega)) ?_ | with_reducible refine cond_tt (by first | exact rfl | exact (ble_tt (by first | omega | (dsimp only; omega))) | exact (blt_tt (by first | omega | (dsimp only; omega))) | exact band_tt rfl rfl | exact band_tt rfl (ble_tt (by first | omega | (dsimp only; omega))) | exact band_tt rfl (blt_tt (by first | omega | (dsimp only; omega))) | exact band_tt (ble_tt (by first | omega | (dsimp only; omega))) rfl | exact band_tt (ble_tt (by first | omega | (dsimp only; omega))) (ble_tt (by first | omega | (dsimp only; omega))) | exact band_tt (ble_tt (by first | omega | (dsimp only; omega))) (blt_tt (by first | omega | (dsimp only; omega))) | exact band_tt (blt_tt (by first | omega | (dsimp only; omega))) rfl | exact band_tt (blt_tt (by first | omega | (dsimp only; omega))) (ble_tt (by first | omega | (dsimp only; omega))) | exact band_tt (blt_tt (by first | omega | (dsimp only; omega))) (blt_tt (by first | omega | (dsimp only; omega)))) ?_ | with_reducible refine Both.mk ?_ ?_ | with_reducible refine NilS.ts ?_ | with_reducible refine LetE.now ?_ | with_reducible refine at_some (by with_unfolding_all exact rfl) ?_ | with_reducible refine Spl.yes (by decide +kernel) ?_ | with_reducible refine Spl.no (by decide +kernel) ?_ | with_reducible refine Spl.yes (by (first | with_reducible assumption | with_unfolding_all exact rfl | exact dtt (by omega) | exact ett (by omega) | exact ntt (by omega) | exact seq_tt (by with_unfolding_all assumption) | exact sne_tt (by with_unfolding_all assumption))) ?_ | with_reducible refine Spl.no (by (first | with_reducible assumption | with_unfolding_all exact rfl | exact dff (by omega) | exact eff (by omega) | exact nff (by omega) | exact seq_ff (by with_unfolding_all assumption) | exact sne_ff (by with_unfolding_all assumption))) ?_ | with_reducible refine Spl.pd (fun h => ?_) (fun h => ?_) | with_reducible refine Spl.peq (fun h => ?_) (fun h => ?_) | with_reducible refine Spl.pne (fun h => ?_) (fun h => ?_) | with_reducible refine Spl.seq (fun h => ?_) (fun h => ?_) | with_reducible refine Spl.sne (fun h => ?_) (fun h => ?_) | with_reducible refine Spl.nt ?_ | with_reducible refine Spl.mk (fun h => ?_) (fun h => ?_)))
  · rename_i hx0
    have hx' : r[r.length - 1]? = some x := by rw [show r.length - 1 = ((r.length : Int) - 1).toNat by omega]; exact hx
    have hsp := last_split hx'
    refine againM (r.take (r.length - 1)) ⟨[x] ++ t, by rw [← List.append_assoc, ← hsp]; exact hr, by rw [List.all_append, ha, Bool.and_true]; simpa using h⟩ (by dsimp only; rw [List.length_take]; omega) (And.intro (st_eq ?_) (And.intro rfl trivial)) (And.intro rfl ?_) rfl (by simp only [List.all_cons, List.all_nil, Ob.lt, all_d]; rfl)
    · rw [show ((r.length : Int) - 1).toNat = r.length - 1 by omega]
    · (repeat (first | exact trivial | refine And.intro rfl ?_))
  · have hx' : r[r.length - 1]? = some x := by rw [show r.length - 1 = ((r.length : Int) - 1).toNat by omega]; exact hx
    have hsp := last_split hx'
    have h2 := hr
    rw [hsp] at h2
    have hw : trimS s = r.dropWhile signB := by rw [trimS, trimR_1 h2 ha (by simpa using h), ← hsp]
    (repeat' ((conv => whnf); first | with_reducible refine Spl.tt ?_ | with_reducible refine Spl.ff ?_ | with_reducible refine CallI.inl ti_ok i77 rfl ?_ | with_reducible refine draw_auto ti_ok mixed (by decide +kernel) ?_ | with_reducible refine LetI.i64 (by first | omega | (with_unfolding_all exact Nat.le_of_ble_eq_true rfl) | (simp only [List.length_append, List.length_cons, List.length_nil, List.length_map, chunk_length]; omega)) ?_ | with_reducible refine LetI.u64 (by omega) ?_ | with_reducible refine LetI.u8 (by omega) ?_ | with_reducible refine LetI.i64q (by omega) ?_ | with_reducible refine LetI.u64q (by omega) ?_ | with_reducible refine LetI.rem (by omega) ?_ | with_reducible refine LetN.mk ?_ | with_reducible refine at_hm (by assumption) ?_ | with_reducible refine at_hb (by assumption) ?_ | with_reducible refine at_lit (by simp only [List.length_map, List.length_cons, List.length_nil]; omega) (by with_unfolding_all exact rfl) ?_ | with_reducible refine at_natm8 (by omega) (fun x hx hu => ?_) | with_reducible refine at_nat8 (by omega) (fun x hx hu => ?_) | with_reducible refine at_bi8 (by omega) (fun x hx hu => ?_) | with_reducible refine at_natm (by omega) (fun x hx => ?_) | with_reducible refine at_intm (by omega) (fun x hx => ?_) | with_reducible refine at_nat (by omega) (fun x hx => ?_) | with_reducible refine at_bi (by omega) (fun x hx => ?_) | with_reducible refine And.intro (by first | omega | (dsimp only; omega) | (with_unfolding_all exact Nat.le_of_ble_eq_true rfl) | (simp only [List.length_append, List.length_cons, List.length_nil, List.length_map, chunk_length]; omega)) ?_ | with_reducible refine cond_tt (by first | exact rfl | exact (ble_tt (by first | omega | (dsimp only; omega))) | exact (blt_tt (by first | omega | (dsimp only; omega))) | exact band_tt rfl rfl | exact band_tt rfl (ble_tt (by first | omega | (dsimp only; omega))) | exact band_tt rfl (blt_tt (by first | omega | (dsimp only; omega))) | exact band_tt (ble_tt (by first | omega | (dsimp only; omega))) rfl | exact band_tt (ble_tt (by first | omega | (dsimp only; omega))) (ble_tt (by first | omega | (dsimp only; omega))) | exact band_tt (ble_tt (by first | omega | (dsimp only; omega))) (blt_tt (by first | omega | (dsimp only; omega))) | exact band_tt (blt_tt (by first | omega | (dsimp only; omega))) rfl | exact band_tt (blt_tt (by first | omega | (dsimp only; omega))) (ble_tt (by first | omega | (dsimp only; omega))) | exact band_tt (blt_tt (by first | omega | (dsimp only; omega))) (blt_tt (by first | omega | (dsimp only; omega)))) ?_ | with_reducible refine Both.mk ?_ ?_ | with_reducible refine NilS.ts ?_ | with_reducible refine LetE.now ?_ | with_reducible refine at_some (by with_unfolding_all exact rfl) ?_ | with_reducible refine Spl.yes (by decide +kernel) ?_ | with_reducible refine Spl.no (by decide +kernel) ?_ | with_reducible refine Spl.yes (by (first | with_reducible assumption | with_unfolding_all exact rfl | exact dtt (by omega) | exact ett (by omega) | exact ntt (by omega) | exact seq_tt (by with_unfolding_all assumption) | exact sne_tt (by with_unfolding_all assumption))) ?_ | with_reducible refine Spl.no (by (first | with_reducible assumption | with_unfolding_all exact rfl | exact dff (by omega) | exact eff (by omega) | exact nff (by omega) | exact seq_ff (by with_unfolding_all assumption) | exact sne_ff (by with_unfolding_all assumption))) ?_ | with_reducible refine Spl.pd (fun h => ?_) (fun h => ?_) | with_reducible refine Spl.peq (fun h => ?_) (fun h => ?_) | with_reducible refine Spl.pne (fun h => ?_) (fun h => ?_) | with_reducible refine Spl.seq (fun h => ?_) (fun h => ?_) | with_reducible refine Spl.sne (fun h => ?_) (fun h => ?_) | with_reducible refine Spl.nt ?_ | with_reducible refine Spl.mk (fun h => ?_) (fun h => ?_)))
    refine loop_mem ti_ok (fun u : List UInt8 => ∃ t, r = t ++ u ∧ t.all signB = true) (fun u => [(0, .d (.st u)), (1, .ptr 0 0)]) (fun _ => [(0, .cells 256 (tab.map .d))]) [0] (fun u => u.length) r ⟨[], rfl, rfl⟩ ⟨rfl, rfl, trivial⟩ ⟨rfl, entL_nub _ _⟩ rfl (by simp only [List.all_cons, List.all_nil, Ob.lt, all_d]; rfl) ?_
    intro u ⟨t', hu', ha'⟩
    (repeat' ((conv => whnf); first | with_reducible refine Spl.tt ?_ | with_reducible refine Spl.ff ?_ | with_reducible refine CallI.inl ti_ok i88 rfl ?_ | with_reducible refine AtA.eq (by with_unfolding_all exact tab_ld ht _ x (by first | omega | (dsimp only; omega) | simp)) ?_ | with_reducible refine draw_auto ti_ok mixed (by decide +kernel) ?_ | with_reducible refine LetI.i64 (by first | omega | (with_unfolding_all exact Nat.le_of_ble_eq_true rfl) | (simp only [List.length_append, List.length_cons, List.length_nil, List.length_map, chunk_length]; omega)) ?_ | with_reducible refine LetI.u64 (by omega) ?_ | with_reducible refine LetI.u8 (by omega) ?_ | with_reducible refine LetI.i64q (by omega) ?_ | with_reducible refine LetI.u64q (by omega) ?_ | with_reducible refine LetI.rem (by omega) ?_ | with_reducible refine LetN.mk ?_ | with_reducible refine at_hm (by assumption) ?_ | with_reducible refine at_hb (by assumption) ?_ | with_reducible refine at_lit (by simp only [List.length_map, List.length_cons, List.length_nil]; omega) (by with_unfolding_all exact rfl) ?_ | with_reducible refine at_natm8 (by omega) (fun x hx hu => ?_) | with_reducible refine at_nat8 (by omega) (fun x hx hu => ?_) | with_reducible refine at_bi8 (by omega) (fun x hx hu => ?_) | with_reducible refine at_natm (by omega) (fun x hx => ?_) | with_reducible refine at_intm (by omega) (fun x hx => ?_) | with_reducible refine at_nat (by omega) (fun x hx => ?_) | with_reducible refine at_bi (by omega) (fun x hx => ?_) | with_reducible refine And.intro (by first | omega | (dsimp only; omega) | (with_unfolding_all exact Nat.le_of_ble_eq_true rfl) | (simp only [List.length_append, List.length_cons, List.length_nil, List.length_map, chunk_length]; omega)) ?_ | with_reducible refine cond_tt (by first | exact rfl | exact (ble_tt (by first | omega | (dsimp only; omega))) | exact (blt_tt (by first | omega | (dsimp only; omega))) | exact band_tt rfl rfl | exact band_tt rfl (ble_tt (by first | omega | (dsimp only; omega))) | exact band_tt rfl (blt_tt (by first | omega | (dsimp only; omega))) | exact band_tt (ble_tt (by first | omega | (dsimp only; omega))) rfl | exact band_tt (ble_tt (by first | omega | (dsimp only; omega))) (ble_tt (by first | omega | (dsimp only; omega))) | exact band_tt (ble_tt (by first | omega | (dsimp only; omega))) (blt_tt (by first | omega | (dsimp only; omega))) | exact band_tt (blt_tt (by first | omega | (dsimp only; omega))) rfl | exact band_tt (blt_tt (by first | omega | (dsimp only; omega))) (ble_tt (by first | omega | (dsimp only; omega))) | exact band_tt (blt_tt (by first | omega | (dsimp only; omega))) (blt_tt (by first | omega | (dsimp only; omega)))) ?_ | with_reducible refine Both.mk ?_ ?_ | with_reducible refine NilS.ts ?_ | with_reducible refine LetE.now ?_ | with_reducible refine at_some (by with_unfolding_all exact rfl) ?_ | with_reducible refine Spl.yes (by decide +kernel) ?_ | with_reducible refine Spl.no (by decide +kernel) ?_ | with_reducible refine Spl.yes (by (first | with_reducible assumption | with_unfolding_all exact rfl | exact dtt (by omega) | exact ett (by omega) | exact ntt (by omega) | exact seq_tt (by with_unfolding_all assumption) | exact sne_tt (by with_unfolding_all assumption))) ?_ | with_reducible refine Spl.no (by (first | with_reducible assumption | with_unfolding_all exact rfl | exact dff (by omega) | exact eff (by omega) | exact nff (by omega) | exact seq_ff (by with_unfolding_all assumption) | exact sne_ff (by with_unfolding_all assumption))) ?_ | with_reducible refine Spl.pd (fun h => ?_) (fun h => ?_) | with_reducible refine Spl.peq (fun h => ?_) (fun h => ?_) | with_reducible refine Spl.pne (fun h => ?_) (fun h => ?_) | with_reducible refine Spl.seq (fun h => ?_) (fun h => ?_) | with_reducible refine Spl.sne (fun h => ?_) (fun h => ?_) | with_reducible refine Spl.nt ?_ | with_reducible refine Spl.mk (fun h => ?_) (fun h => ?_)))
    · refine againM (u.drop 1) ⟨t' ++ [x], ?_, ?_⟩ (by dsimp only; rw [List.length_drop]; omega) (And.intro (st_eq ?_) (And.intro rfl trivial)) (And.intro rfl ?_) rfl (by simp only [List.all_cons, List.all_nil, Ob.lt, all_d]; rfl)
      · rw [List.append_assoc, hu']; congr 1; exact cons_drop hx
      · rw [List.all_append, ha', Bool.true_and]; simpa using h
      · simp
      · (repeat (first | exact trivial | refine And.intro rfl ?_))
    · exact st_eq (hw.trans (dropW_1 hu' ha' hx (by simpa using h))).symm
    · exact st_eq (hw.trans (dropW_0 hu' ha' (by omega))).symm
  · have hw : trimS s = r.dropWhile signB := by
      have hr0 : r = [] := List.length_eq_zero_iff.1 (by omega)
      rw [hr0] at hr
      rw [trimS, trimR_0 hr ha, hr0]
    (repeat' ((conv => whnf); first | with_reducible refine Spl.tt ?_ | with_reducible refine Spl.ff ?_ | with_reducible refine CallI.inl ti_ok i77 rfl ?_ | with_reducible refine draw_auto ti_ok mixed (by decide +kernel) ?_ | with_reducible refine LetI.i64 (by first | omega | (with_unfolding_all exact Nat.le_of_ble_eq_true rfl) | (simp only [List.length_append, List.length_cons, List.length_nil, List.length_map, chunk_length]; omega)) ?_ | with_reducible refine LetI.u64 (by omega) ?_ | with_reducible refine LetI.u8 (by omega) ?_ | with_reducible refine LetI.i64q (by omega) ?_ | with_reducible refine LetI.u64q (by omega) ?_ | with_reducible refine LetI.rem (by omega) ?_ | with_reducible refine LetN.mk ?_ | with_reducible refine at_hm (by assumption) ?_ | with_reducible refine at_hb (by assumption) ?_ | with_reducible refine at_lit (by simp only [List.length_map, List.length_cons, List.length_nil]; omega) (by with_unfolding_all exact rfl) ?_ | with_reducible refine at_natm8 (by omega) (fun x hx hu => ?_) | with_reducible refine at_nat8 (by omega) (fun x hx hu => ?_) | with_reducible refine at_bi8 (by omega) (fun x hx hu => ?_) | with_reducible refine at_natm (by omega) (fun x hx => ?_) | with_reducible refine at_intm (by omega) (fun x hx => ?_) | with_reducible refine at_nat (by omega) (fun x hx => ?_) | with_reducible refine at_bi (by omega) (fun x hx => ?_) | with_reducible refine And.intro (by first | omega | (dsimp only; omega) | (with_unfolding_all exact Nat.le_of_ble_eq_true rfl) | (simp only [List.length_append, List.length_cons, List.length_nil, List.length_map, chunk_length]; omega)) ?_ | with_reducible refine cond_tt (by first | exact rfl | exact (ble_tt (by first | omega | (dsimp only; omega))) | exact (blt_tt (by first | omega | (dsimp only; omega))) | exact band_tt rfl rfl | exact band_tt rfl (ble_tt (by first | omega | (dsimp only; omega))) | exact band_tt rfl (blt_tt (by first | omega | (dsimp only; omega))) | exact band_tt (ble_tt (by first | omega | (dsimp only; omega))) rfl | exact band_tt (ble_tt (by first | omega | (dsimp only; omega))) (ble_tt (by first | omega | (dsimp only; omega))) | exact band_tt (ble_tt (by first | omega | (dsimp only; omega))) (blt_tt (by first | omega | (dsimp only; omega))) | exact band_tt (blt_tt (by first | omega | (dsimp only; omega))) rfl | exact band_tt (blt_tt (by first | omega | (dsimp only; omega))) (ble_tt (by first | omega | (dsimp only; omega))) | exact band_tt (blt_tt (by first | omega | (dsimp only; omega))) (blt_tt (by first | omega | (dsimp only; omega)))) ?_ | with_reducible refine Both.mk ?_ ?_ | with_reducible refine NilS.ts ?_ | with_reducible refine LetE.now ?_ | with_reducible refine at_some (by with_unfolding_all exact rfl) ?_ | with_reducible refine Spl.yes (by decide +kernel) ?_ | with_reducible refine Spl.no (by decide +kernel) ?_ | with_reducible refine Spl.yes (by (first | with_reducible assumption | with_unfolding_all exact rfl | exact dtt (by omega) | exact ett (by omega) | exact ntt (by omega) | exact seq_tt (by with_unfolding_all assumption) | exact sne_tt (by with_unfolding_all assumption))) ?_ | with_reducible refine Spl.no (by (first | with_reducible assumption | with_unfolding_all exact rfl | exact dff (by omega) | exact eff (by omega) | exact nff (by omega) | exact seq_ff (by with_unfolding_all assumption) | exact sne_ff (by with_unfolding_all assumption))) ?_ | with_reducible refine Spl.pd (fun h => ?_) (fun h => ?_) | with_reducible refine Spl.peq (fun h => ?_) (fun h => ?_) | with_reducible refine Spl.pne (fun h => ?_) (fun h => ?_) | with_reducible refine Spl.seq (fun h => ?_) (fun h => ?_) | with_reducible refine Spl.sne (fun h => ?_) (fun h => ?_) | with_reducible refine Spl.nt ?_ | with_reducible refine Spl.mk (fun h => ?_) (fun h => ?_)))
    refine loop_mem ti_ok (fun u : List UInt8 => ∃ t, r = t ++ u ∧ t.all signB = true) (fun u => [(0, .d (.st u)), (1, .ptr 0 0)]) (fun _ => [(0, .cells 256 (tab.map .d))]) [0] (fun u => u.length) r ⟨[], rfl, rfl⟩ ⟨rfl, rfl, trivial⟩ ⟨rfl, entL_nub _ _⟩ rfl (by simp only [List.all_cons, List.all_nil, Ob.lt, all_d]; rfl) ?_
    intro u ⟨t', hu', ha'⟩
    (repeat' ((conv => whnf); first | with_reducible refine Spl.tt ?_ | with_reducible refine Spl.ff ?_ | with_reducible refine CallI.inl ti_ok i88 rfl ?_ | with_reducible refine AtA.eq (by with_unfolding_all exact tab_ld ht _ x (by first | omega | (dsimp only; omega) | simp)) ?_ | with_reducible refine draw_auto ti_ok mixed (by decide +kernel) ?_ | with_reducible refine LetI.i64 (by first | omega | (with_unfolding_all exact Nat.le_of_ble_eq_true rfl) | (simp only [List.length_append, List.length_cons, List.length_nil, List.length_map, chunk_length]; omega)) ?_ | with_reducible refine LetI.u64 (by omega) ?_ | with_reducible refine LetI.u8 (by omega) ?_ | with_reducible refine LetI.i64q (by omega) ?_ | with_reducible refine LetI.u64q (by omega) ?_ | with_reducible refine LetI.rem (by omega) ?_ | with_reducible refine LetN.mk ?_ | with_reducible refine at_hm (by assumption) ?_ | with_reducible refine at_hb (by assumption) ?_ | with_reducible refine at_lit (by simp only [List.length_map, List.length_cons, List.length_nil]; omega) (by with_unfolding_all exact rfl) ?_ | with_reducible refine at_natm8 (by omega) (fun x hx hu => ?_) | with_reducible refine at_nat8 (by omega) (fun x hx hu => ?_) | with_reducible refine at_bi8 (by omega) (fun x hx hu => ?_) | with_reducible refine at_natm (by omega) (fun x hx => ?_) | with_reducible refine at_intm (by omega) (fun x hx => ?_) | with_reducible refine at_nat (by omega) (fun x hx => ?_) | with_reducible refine at_bi (by omega) (fun x hx => ?_) | with_reducible refine And.intro (by first | omega | (dsimp only; omega) | (with_unfolding_all exact Nat.le_of_ble_eq_true rfl) | (simp only [List.length_append, List.length_cons, List.length_nil, List.length_map, chunk_length]; omega)) ?_ | with_reducible refine cond_tt (by first | exact rfl | exact (ble_tt (by first | omega | (dsimp only; omega))) | exact (blt_tt (by first | omega | (dsimp only; omega))) | exact band_tt rfl rfl | exact band_tt rfl (ble_tt (by first | omega | (dsimp only; omega))) | exact band_tt rfl (blt_tt (by first | omega | (dsimp only; omega))) | exact band_tt (ble_tt (by first | omega | (dsimp only; omega))) rfl | exact band_tt (ble_tt (by first | omega | (dsimp only; omega))) (ble_tt (by first | omega | (dsimp only; omega))) | exact band_tt (ble_tt (by first | omega | (dsimp only; omega))) (blt_tt (by first | omega | (dsimp only; omega))) | exact band_tt (blt_tt (by first | omega | (dsimp only; omega))) rfl | exact band_tt (blt_tt (by first | omega | (dsimp only; omega))) (ble_tt (by first | omega | (dsimp only; omega))) | exact band_tt (blt_tt (by first | omega | (dsimp only; omega))) (blt_tt (by first | omega | (dsimp only; omega)))) ?_ | with_reducible refine Both.mk ?_ ?_ | with_reducible refine NilS.ts ?_ | with_reducible refine LetE.now ?_ | with_reducible refine at_some (by with_unfolding_all exact rfl) ?_ | with_reducible refine Spl.yes (by decide +kernel) ?_ | with_reducible refine Spl.no (by decide +kernel) ?_ | with_reducible refine Spl.yes (by (first | with_reducible assumption | with_unfolding_all exact rfl | exact dtt (by omega) | exact ett (by omega) | exact ntt (by omega) | exact seq_tt (by with_unfolding_all assumption) | exact sne_tt (by with_unfolding_all assumption))) ?_ | with_reducible refine Spl.no (by (first | with_reducible assumption | with_unfolding_all exact rfl | exact dff (by omega) | exact eff (by omega) | exact nff (by omega) | exact seq_ff (by with_unfolding_all assumption) | exact sne_ff (by with_unfolding_all assumption))) ?_ | with_reducible refine Spl.pd (fun h => ?_) (fun h => ?_) | with_reducible refine Spl.peq (fun h => ?_) (fun h => ?_) | with_reducible refine Spl.pne (fun h => ?_) (fun h => ?_) | with_reducible refine Spl.seq (fun h => ?_) (fun h => ?_) | with_reducible refine Spl.sne (fun h => ?_) (fun h => ?_) | with_reducible refine Spl.nt ?_ | with_reducible refine Spl.mk (fun h => ?_) (fun h => ?_)))
    · refine againM (u.drop 1) ⟨t' ++ [x], ?_, ?_⟩ (by dsimp only; rw [List.length_drop]; omega) (And.intro (st_eq ?_) (And.intro rfl trivial)) (And.intro rfl ?_) rfl (by simp only [List.all_cons, List.all_nil, Ob.lt, all_d]; rfl)
      · rw [List.append_assoc, hu']; congr 1; exact cons_drop hx
      · rw [List.all_append, ha', Bool.true_and]; simpa using h
      · simp
      · (repeat (first | exact trivial | refine And.intro rfl ?_))
    · exact st_eq (hw.trans (dropW_1 hu' ha' hx (by simpa using h))).symm
    · exact st_eq (hw.trans (dropW_0 hu' ha' (by omega))).symm
end Go.Proofs.YtkcpcjhjemedpaaGreatDoor

/-
  DERIVED: THE SHELF's CONTRACTS AT THIS DUMP, IN PLAIN WORDS (tools/lay-plain.mjs out of 'TryzShelf.lean', which tools/lay-shelf.mjs wrote): THE SAME DECLARATIONS UNDER THE SAME NAMES: 'import', 'namespace', 'open', 'def', 'theorem' AND NOTHING ELSE: no command of the shelf's: FOR A HAND-IN. Each laying: the table of numbers ('.._ren') and one theorem, a field a fact of the dump's own or the kernel's comparison; each contract: ONE APPLICATION.
-/
namespace Go.Proofs
open Go.Shelf
def Tryz.lays169_ren : Go.Shelf.Ren := ⟨fun | 169 => 26 | n => n, fun | 70 => 49 | 9 => 9 | 0 => 0 | 72 => 52 | 37 => 50 | 127 => 76 | 3 => 3 | 5 => 5 | n => n, fun | n => n⟩
theorem Tryz.lays169 : Go.Proofs.Lays.n169 Tryz.prog Tryz.lays169_ren := {
  mixed := by kernel_rfl
  f169 := Tryz.func26.trans (congrArg some (by kernel_rfl))
  t0 := Tryz.underlying0
  a0 := Tryz.isAgg0
  z0 := Tryz.sizeOf0
  v0 := Tryz.zeroValue0
  t3 := Tryz.underlying3
  a3 := Tryz.isAgg3
  z3 := Tryz.sizeOf3
  v3 := Tryz.zeroValue3
  t9 := Tryz.underlying9
  a9 := Tryz.isAgg9
  z9 := Tryz.sizeOf9
  v9 := Tryz.zeroValue9
  t37 := Tryz.underlying50
  a37 := Tryz.isAgg50
  z37 := Tryz.sizeOf50
  v37 := Tryz.zeroValue50
  t70 := Tryz.underlying49
  a70 := Tryz.isAgg49
  z70 := Tryz.sizeOf49
  v70 := Tryz.zeroValue49
  t72 := Tryz.underlying52
  a72 := Tryz.isAgg52
  z72 := Tryz.sizeOf52
  v72 := Tryz.zeroValue52
  t127 := Tryz.underlying76
  a127 := Tryz.isAgg76
  z127 := Tryz.sizeOf76
  v127 := Tryz.zeroValue76 }
theorem Tryz.Builder_Extra_169 : Builder.Extra Tryz.prog Tryz.lays169_ren := {
  sizeBuilder := by kernel_rfl
  liesBuilder := by kernel_rfl
  t5 := Tryz.underlying5
  a5 := Tryz.isAgg5
  z5 := Tryz.sizeOf5
  v5 := Tryz.zeroValue5
  infoByte := by kernel_rfl
  cellsByte := by kernel_rfl
  sizeByte := by kernel_rfl
  neB5 := by decide }
open Go.RowKit in
/-- (*strings.Builder).String: "String returns the accumulated string.": OF A BUILDER THAT HOLDS AT LEAST ONE BYTE. ✋ THE MODEL FREEZES THOSE BYTES IN THE BUFFER (unsafe.String): a later write INTO them ends the model's run without an answer; a later append BEHIND them goes on. The statement's order of evaluation is drawn: one draw. (LAID: no walk: one application.) -/
theorem Tryz.Builder_String (B b : Nat) (l : List UInt8) (w : World) (h : Lib.IsBuilder 52 5 B b (Lib.byteCells l) w) (h0 : l ≠ []) :
    Calls Tryz.prog 26 #[.pointer (some ⟨b, 0, none⟩)] w fun e w' => e = .returned (.string ⟨l.toArray⟩) ∧ Below B w w' := Any.Builder_String Tryz.lays169 Tryz.Builder_Extra_169 B b l w h h0
open Go.RowKit in
/-- (*strings.Builder).String OF A BUILDER THAT HOLDS NO BYTE: the empty string. (Its buffer is nil, or a row of which it has taken nothing yet; where that row has NO capacity the model lays one new block for unsafe.SliceData's 'some address'.) One draw. (LAID: no walk: one application.) -/
theorem Tryz.Builder_String_empty (B b : Nat) (w : World) (h : Lib.IsBuilder 52 5 B b [] w) (hBw : B ≤ w.heap.size) :
    Calls Tryz.prog 26 #[.pointer (some ⟨b, 0, none⟩)] w fun e w' => e = .returned (.string ⟨#[]⟩) ∧ Below B w w' := Any.Builder_String_empty Tryz.lays169 Tryz.Builder_Extra_169 B b w h hBw
open Go.RowKit in
/-- (*strings.Builder).String: "String returns the accumulated string.": WHATEVER THE BUILDER HOLDS. (LAID: no walk: one application.) -/
theorem Tryz.Builder_String_any (B b : Nat) (l : List UInt8) (w : World) (h : Lib.IsBuilder 52 5 B b (Lib.byteCells l) w) (hBw : B ≤ w.heap.size) :
    Calls Tryz.prog 26 #[.pointer (some ⟨b, 0, none⟩)] w fun e w' => e = .returned (.string ⟨l.toArray⟩) ∧ Below B w w' := Any.Builder_String_any Tryz.lays169 Tryz.Builder_Extra_169 B b l w h hBw
def Tryz.lays241_ren : Go.Shelf.Ren := ⟨fun | 241 => 52 | 277 => 65 | n => n, fun | 70 => 49 | 3 => 3 | 0 => 0 | 72 => 52 | 37 => 50 | 5 => 5 | n => n, fun | n => n⟩
theorem Tryz.lays241 : Go.Proofs.Lays.n241 Tryz.prog Tryz.lays241_ren := {
  mixed := by kernel_rfl
  f241 := Tryz.func52.trans (congrArg some (by kernel_rfl))
  f277 := Tryz.func65.trans (congrArg some (by kernel_rfl))
  t0 := Tryz.underlying0
  a0 := Tryz.isAgg0
  z0 := Tryz.sizeOf0
  v0 := Tryz.zeroValue0
  t3 := Tryz.underlying3
  a3 := Tryz.isAgg3
  z3 := Tryz.sizeOf3
  v3 := Tryz.zeroValue3
  t37 := Tryz.underlying50
  a37 := Tryz.isAgg50
  z37 := Tryz.sizeOf50
  v37 := Tryz.zeroValue50
  t70 := Tryz.underlying49
  a70 := Tryz.isAgg49
  z70 := Tryz.sizeOf49
  v70 := Tryz.zeroValue49
  t72 := Tryz.underlying52
  a72 := Tryz.isAgg52
  z72 := Tryz.sizeOf52
  v72 := Tryz.zeroValue52 }
theorem Tryz.Builder_Extra_241 : Builder.Extra Tryz.prog Tryz.lays241_ren := {
  sizeBuilder := by kernel_rfl
  liesBuilder := by kernel_rfl
  t5 := Tryz.underlying5
  a5 := Tryz.isAgg5
  z5 := Tryz.sizeOf5
  v5 := Tryz.zeroValue5
  infoByte := by kernel_rfl
  cellsByte := by kernel_rfl
  sizeByte := by kernel_rfl
  neB5 := by decide }
open Go.RowKit in
/-- (*strings.Builder).grow (no doc but "grow copies the buffer to a new, larger buffer so that there are at least n bytes of capacity beyond len(b.buf)."): AT A BUILDER WITHOUT A BUFFER: a new row of whatever bytes for its buffer, none of them its own yet. Three draws. (LAID: no walk: one application.) -/
theorem Tryz.Builder_grow_fresh (B b n : Nat) (w : World) (hB : B ≤ b) (hbk : w.heap[b]? = some (.cells #[.pointer (some ⟨b, 0, none⟩), .slice none 0 0] 52 (0, 0))) (hBw : B ≤ w.heap.size) (hn : n ≤ 281474976710656) :
    Calls Tryz.prog 52 #[.pointer (some ⟨b, 0, none⟩), .int .i64 n] w fun e w' => e = .returned (.tuple #[]) ∧ (Lib.BuilderAt 52 5 B b (.pointer (some ⟨b, 0, none⟩)) [] w' ∧ Below B w w') := Any.Builder_grow_fresh Tryz.lays241 Tryz.Builder_Extra_241 B b n w hB hbk hBw hn
def Tryz.lays165_ren : Go.Shelf.Ren := ⟨fun | 165 => 37 | 240 => 36 | 241 => 52 | 276 => 51 | 277 => 65 | n => n, fun | 70 => 49 | 3 => 3 | 0 => 0 | 4 => 4 | 9 => 9 | 20 => 20 | 72 => 52 | 37 => 50 | 164 => 85 | 5 => 5 | n => n, fun | n => n⟩
theorem Tryz.lays165 : Go.Proofs.Lays.n165 Tryz.prog Tryz.lays165_ren := {
  mixed := by kernel_rfl
  f165 := Tryz.func37.trans (congrArg some (by kernel_rfl))
  f240 := Tryz.func36.trans (congrArg some (by kernel_rfl))
  f241 := Tryz.func52.trans (congrArg some (by kernel_rfl))
  f276 := Tryz.func51.trans (congrArg some (by kernel_rfl))
  f277 := Tryz.func65.trans (congrArg some (by kernel_rfl))
  t0 := Tryz.underlying0
  a0 := Tryz.isAgg0
  z0 := Tryz.sizeOf0
  v0 := Tryz.zeroValue0
  t3 := Tryz.underlying3
  a3 := Tryz.isAgg3
  z3 := Tryz.sizeOf3
  v3 := Tryz.zeroValue3
  t4 := Tryz.underlying4
  a4 := Tryz.isAgg4
  z4 := Tryz.sizeOf4
  v4 := Tryz.zeroValue4
  t9 := Tryz.underlying9
  a9 := Tryz.isAgg9
  z9 := Tryz.sizeOf9
  v9 := Tryz.zeroValue9
  t20 := Tryz.underlying20
  a20 := Tryz.isAgg20
  z20 := Tryz.sizeOf20
  v20 := Tryz.zeroValue20
  t37 := Tryz.underlying50
  a37 := Tryz.isAgg50
  z37 := Tryz.sizeOf50
  v37 := Tryz.zeroValue50
  t70 := Tryz.underlying49
  a70 := Tryz.isAgg49
  z70 := Tryz.sizeOf49
  v70 := Tryz.zeroValue49
  t72 := Tryz.underlying52
  a72 := Tryz.isAgg52
  z72 := Tryz.sizeOf52
  v72 := Tryz.zeroValue52
  t164 := Tryz.underlying85
  a164 := Tryz.isAgg85
  z164 := Tryz.sizeOf85
  v164 := Tryz.zeroValue85 }
theorem Tryz.Builder_Extra_165 : Builder.Extra Tryz.prog Tryz.lays165_ren := {
  sizeBuilder := by kernel_rfl
  liesBuilder := by kernel_rfl
  t5 := Tryz.underlying5
  a5 := Tryz.isAgg5
  z5 := Tryz.sizeOf5
  v5 := Tryz.zeroValue5
  infoByte := by kernel_rfl
  cellsByte := by kernel_rfl
  sizeByte := by kernel_rfl
  neB5 := by decide }
open Go.RowKit in
/-- (*strings.Builder).Grow AT A BUILDER THAT HAS NOT BEEN WRITTEN ('var b strings.Builder; b.Grow(n)'): "Grow grows b's capacity, if necessary, to guarantee space for another n bytes.": it holds no byte behind it as before it. (LAID: no walk: one application.) -/
theorem Tryz.Builder_Grow_fresh (B b n : Nat) (w : World) (hB : B ≤ b) (hbk : w.heap[b]? = some (.cells #[.pointer none, .slice none 0 0] 52 (0, 0))) (hBw : B ≤ w.heap.size) (hn : n ≤ 281474976710656) :
    Calls Tryz.prog 37 #[.pointer (some ⟨b, 0, none⟩), .int .i64 n] w fun e w' => e = .returned (.tuple #[]) ∧ (Lib.BuilderAt 52 5 B b (.pointer (some ⟨b, 0, none⟩)) [] w' ∧ Below B w w') := Any.Builder_Grow_fresh Tryz.lays165 Tryz.Builder_Extra_165 B b n w hB hbk hBw hn
def Tryz.lays156_ren : Go.Shelf.Ren := ⟨fun | 156 => 25 | 165 => 37 | 166 => 24 | 169 => 26 | 240 => 36 | 241 => 52 | 276 => 51 | 277 => 65 | n => n, fun | 31 => 53 | 9 => 9 | 3 => 3 | 4 => 4 | 0 => 0 | 20 => 20 | 72 => 52 | 76 => 56 | 70 => 49 | 37 => 50 | 75 => 55 | 127 => 76 | 164 => 85 | 5 => 5 | 80 => 60 | n => n, fun | n => n⟩
theorem Tryz.lays156 : Go.Proofs.Lays.n156 Tryz.prog Tryz.lays156_ren := {
  mixed := by kernel_rfl
  f156 := Tryz.func25.trans (congrArg some (by kernel_rfl))
  f165 := Tryz.func37.trans (congrArg some (by kernel_rfl))
  f166 := Tryz.func24.trans (congrArg some (by kernel_rfl))
  f169 := Tryz.func26.trans (congrArg some (by kernel_rfl))
  f240 := Tryz.func36.trans (congrArg some (by kernel_rfl))
  f241 := Tryz.func52.trans (congrArg some (by kernel_rfl))
  f276 := Tryz.func51.trans (congrArg some (by kernel_rfl))
  f277 := Tryz.func65.trans (congrArg some (by kernel_rfl))
  t0 := Tryz.underlying0
  a0 := Tryz.isAgg0
  z0 := Tryz.sizeOf0
  v0 := Tryz.zeroValue0
  t3 := Tryz.underlying3
  a3 := Tryz.isAgg3
  z3 := Tryz.sizeOf3
  v3 := Tryz.zeroValue3
  t4 := Tryz.underlying4
  a4 := Tryz.isAgg4
  z4 := Tryz.sizeOf4
  v4 := Tryz.zeroValue4
  t9 := Tryz.underlying9
  a9 := Tryz.isAgg9
  z9 := Tryz.sizeOf9
  v9 := Tryz.zeroValue9
  t20 := Tryz.underlying20
  a20 := Tryz.isAgg20
  z20 := Tryz.sizeOf20
  v20 := Tryz.zeroValue20
  t31 := Tryz.underlying53
  a31 := Tryz.isAgg53
  z31 := Tryz.sizeOf53
  v31 := Tryz.zeroValue53
  t37 := Tryz.underlying50
  a37 := Tryz.isAgg50
  z37 := Tryz.sizeOf50
  v37 := Tryz.zeroValue50
  t70 := Tryz.underlying49
  a70 := Tryz.isAgg49
  z70 := Tryz.sizeOf49
  v70 := Tryz.zeroValue49
  t72 := Tryz.underlying52
  a72 := Tryz.isAgg52
  z72 := Tryz.sizeOf52
  v72 := Tryz.zeroValue52
  t75 := Tryz.underlying55
  a75 := Tryz.isAgg55
  z75 := Tryz.sizeOf55
  v75 := Tryz.zeroValue55
  t76 := Tryz.underlying56
  a76 := Tryz.isAgg56
  z76 := Tryz.sizeOf56
  v76 := Tryz.zeroValue56
  t127 := Tryz.underlying76
  a127 := Tryz.isAgg76
  z127 := Tryz.sizeOf76
  v127 := Tryz.zeroValue76
  t164 := Tryz.underlying85
  a164 := Tryz.isAgg85
  z164 := Tryz.sizeOf85
  v164 := Tryz.zeroValue85 }
theorem Tryz.Builder_Extra_156 : Builder.Extra Tryz.prog Tryz.lays156_ren := {
  sizeBuilder := by kernel_rfl
  liesBuilder := by kernel_rfl
  t5 := Tryz.underlying5
  a5 := Tryz.isAgg5
  z5 := Tryz.sizeOf5
  v5 := Tryz.zeroValue5
  infoByte := by kernel_rfl
  cellsByte := by kernel_rfl
  sizeByte := by kernel_rfl
  neB5 := by decide }
open Go.RowKit in
/-- No element: the empty string; the world is as it was. (Whatever the slice's address and capacity: a nil slice too.) (LAID: no walk: one application.) -/
theorem Tryz.strings_Join_none (a : Option Addr) (c : Nat) (sep : ByteArray) (w : World) :
    Calls Tryz.prog 25 #[.slice a 0 c, .string sep] w fun e w' => e = .returned (.string ⟨#[]⟩) ∧ w' = w := Any.strings_Join_none Tryz.lays156 Tryz.Builder_Extra_156 a c sep w
open Go.RowKit in
/-- strings.Join: "Join concatenates the elements of its first argument to create a single string. The separator string sep is placed between elements in the resulting string.": HOWEVER MANY ELEMENTS. Below the heap's end the world is as it was. (LAID: no walk: one application.) -/
theorem Tryz.strings_Join (bk o c : Nat) (xs : List ByteArray) (sep : ByteArray) (w : World) (hcells : ∀ (j : Nat) x, xs[j]? = some x → w.cell? ⟨bk, o + j, none⟩ = some (.string x)) (hbk : bk < w.heap.size) (hN : xs.length ≤ 140737488355328) (hcap : xs.length ≤ c) (hlen : (Lib.join (xs.map (·.data.toList)) sep.data.toList).length ≤ 140737488355328) :
    Calls Tryz.prog 25 #[.slice (some ⟨bk, o, none⟩) xs.length c, .string sep] w fun e w' => e = .returned (.string ⟨(Lib.join (xs.map (·.data.toList)) sep.data.toList).toArray⟩) ∧ Below w.heap.size w w' := Any.strings_Join Tryz.lays156 Tryz.Builder_Extra_156 bk o c xs sep w hcells hbk hN hcap hlen
def Tryz.lays119_ren : Go.Shelf.Ren := ⟨fun | 119 => 102 | n => n, fun | 21 => 21 | 4 => 4 | n => n, fun | n => n⟩
theorem Tryz.lays119 : Go.Proofs.Lays.n119 Tryz.prog Tryz.lays119_ren := {
  mixed := by kernel_rfl
  f119 := Tryz.func102.trans (congrArg some (by kernel_rfl))
  t4 := Tryz.underlying4
  a4 := Tryz.isAgg4
  z4 := Tryz.sizeOf4
  v4 := Tryz.zeroValue4
  t21 := Tryz.underlying21
  a21 := Tryz.isAgg21
  z21 := Tryz.sizeOf21
  v21 := Tryz.zeroValue21 }
/-- utf8.ValidRune: "ValidRune reports whether r can be legally encoded as UTF-8. Code points that are out of range or a surrogate half are illegal.": IT RETURNS 'Lib.validRune r'; the world is as it was. (LAID: no walk: one application.) -/
theorem Tryz.utf8_ValidRune (r : Int) (w : World) :
    Calls Tryz.prog 102 #[.int .i32 r] w fun e w' => e = .returned (.bool (Lib.validRune r)) ∧ w' = w := Any.utf8_ValidRune Tryz.lays119 r w
def Tryz.lays120_ren : Go.Shelf.Ren := ⟨fun | 120 => 98 | n => n, fun | 5 => 5 | 4 => 4 | n => n, fun | n => n⟩
theorem Tryz.lays120 : Go.Proofs.Lays.n120 Tryz.prog Tryz.lays120_ren := {
  mixed := by kernel_rfl
  f120 := Tryz.func98.trans (congrArg some (by kernel_rfl))
  t4 := Tryz.underlying4
  a4 := Tryz.isAgg4
  z4 := Tryz.sizeOf4
  v4 := Tryz.zeroValue4
  t5 := Tryz.underlying5
  a5 := Tryz.isAgg5
  z5 := Tryz.sizeOf5
  v5 := Tryz.zeroValue5 }
/-- utf8.RuneStart: "RuneStart reports whether the byte could be the first byte of an encoded, possibly invalid rune. Second and subsequent bytes always have the top two bits set to 10.": IT RETURNS 'Lib.runeStart b'; the world is as it was. ('h0', 'h1': b is a byte: a caller has it of every byte that it was handed.) (LAID: no walk: one application.) -/
theorem Tryz.utf8_RuneStart (b : Int) (w : World) (h0 : 0 ≤ b) (h1 : b < 256) :
    Calls Tryz.prog 98 #[.int .u8 b] w fun e w' => e = .returned (.bool (Lib.runeStart b)) ∧ w' = w := Any.utf8_RuneStart Tryz.lays120 b w h0 h1
def Tryz.lays137_ren : Go.Shelf.Ren := ⟨fun | 137 => 101 | 217 => 93 | 266 => 99 | n => n, fun | 9 => 9 | 5 => 5 | 3 => 3 | n => n, fun | n => n⟩
theorem Tryz.lays137 : Go.Proofs.Lays.n137 Tryz.prog Tryz.lays137_ren := {
  mixed := by kernel_rfl
  f137 := Tryz.func101.trans (congrArg some (by kernel_rfl))
  f217 := Tryz.func93.trans (congrArg some (by kernel_rfl))
  f266 := Tryz.func99.trans (congrArg some (by kernel_rfl))
  t3 := Tryz.underlying3
  a3 := Tryz.isAgg3
  z3 := Tryz.sizeOf3
  v3 := Tryz.zeroValue3
  t5 := Tryz.underlying5
  a5 := Tryz.isAgg5
  z5 := Tryz.sizeOf5
  v5 := Tryz.zeroValue5
  t9 := Tryz.underlying9
  a9 := Tryz.isAgg9
  z9 := Tryz.sizeOf9
  v9 := Tryz.zeroValue9 }
open Go.RowKit in
/-- strings.IndexByte: "IndexByte returns the index of the first instance of c in s, or -1 if c is not present in s.": IT RETURNS 'Lib.indexByte s c'; the world is as it was. (LAID: no walk: one application.) -/
theorem Tryz.strings_IndexByte (s : ByteArray) (c : Int) (w : World) :
    Calls Tryz.prog 101 #[.string s, .int .u8 c] w fun e w' => e = .returned (.int .i64 (Lib.indexByte s.data.toList c.toNat.toUInt8)) ∧ w' = w := Any.strings_IndexByte Tryz.lays137 s c w
def Tryz.lays210_ren : Go.Shelf.Ren := ⟨fun | 210 => 57 | 206 => 70 | n => n, fun | 9 => 9 | 4 => 4 | 3 => 3 | n => n, fun | n => n⟩
theorem Tryz.lays210 : Go.Proofs.Lays.n210 Tryz.prog Tryz.lays210_ren := {
  mixed := by kernel_rfl
  f206 := Tryz.func70.trans (congrArg some (by kernel_rfl))
  f210 := Tryz.func57.trans (congrArg some (by kernel_rfl))
  t3 := Tryz.underlying3
  a3 := Tryz.isAgg3
  z3 := Tryz.sizeOf3
  v3 := Tryz.zeroValue3
  t4 := Tryz.underlying4
  a4 := Tryz.isAgg4
  z4 := Tryz.sizeOf4
  v4 := Tryz.zeroValue4
  t9 := Tryz.underlying9
  a9 := Tryz.isAgg9
  z9 := Tryz.sizeOf9
  v9 := Tryz.zeroValue9 }
open Go.RowKit in
/-- internal/stringslite.CutPrefix (what strings.CutPrefix calls). (LAID: no walk: one application.) -/
theorem Tryz.stringslite_CutPrefix (s p : ByteArray) (w : World) :
    Calls Tryz.prog 57 #[.string s, .string p] w fun e w' => e = .returned (.tuple #[.string ⟨(Lib.trimPrefix s.data.toList p.data.toList).toArray⟩, .bool (Lib.hasPrefix s.data.toList p.data.toList)]) ∧ w' = w := Any.stringslite_CutPrefix Tryz.lays210 s p w
def Tryz.lays103_ren : Go.Shelf.Ren := ⟨fun | 103 => 41 | 210 => 57 | 206 => 70 | n => n, fun | 9 => 9 | 4 => 4 | 24 => 71 | 3 => 3 | n => n, fun | n => n⟩
theorem Tryz.lays103 : Go.Proofs.Lays.n103 Tryz.prog Tryz.lays103_ren := {
  mixed := by kernel_rfl
  f103 := Tryz.func41.trans (congrArg some (by kernel_rfl))
  f206 := Tryz.func70.trans (congrArg some (by kernel_rfl))
  f210 := Tryz.func57.trans (congrArg some (by kernel_rfl))
  t3 := Tryz.underlying3
  a3 := Tryz.isAgg3
  z3 := Tryz.sizeOf3
  v3 := Tryz.zeroValue3
  t4 := Tryz.underlying4
  a4 := Tryz.isAgg4
  z4 := Tryz.sizeOf4
  v4 := Tryz.zeroValue4
  t9 := Tryz.underlying9
  a9 := Tryz.isAgg9
  z9 := Tryz.sizeOf9
  v9 := Tryz.zeroValue9
  t24 := Tryz.underlying71
  a24 := Tryz.isAgg71
  z24 := Tryz.sizeOf71
  v24 := Tryz.zeroValue71 }
open Go.RowKit in
/-- strings.CutPrefix: "CutPrefix returns s without the provided leading prefix string and reports whether it found the prefix. If s doesn't start with prefix, CutPrefix returns s, false. If prefix is the empty string, CutPrefix returns s, true.": IT RETURNS '(Lib.trimPrefix s p, Lib.hasPrefix s p)'; the world is as it was. (LAID: no walk: one application.) -/
theorem Tryz.strings_CutPrefix (s p : ByteArray) (w : World) :
    Calls Tryz.prog 41 #[.string s, .string p] w fun e w' => e = .returned (.tuple #[.string ⟨(Lib.trimPrefix s.data.toList p.data.toList).toArray⟩, .bool (Lib.hasPrefix s.data.toList p.data.toList)]) ∧ w' = w := Any.strings_CutPrefix Tryz.lays103 s p w
def Tryz.lays217_ren : Go.Shelf.Ren := ⟨fun | 217 => 93 | 266 => 99 | n => n, fun | 9 => 9 | 5 => 5 | 3 => 3 | n => n, fun | n => n⟩
theorem Tryz.lays217 : Go.Proofs.Lays.n217 Tryz.prog Tryz.lays217_ren := {
  mixed := by kernel_rfl
  f217 := Tryz.func93.trans (congrArg some (by kernel_rfl))
  f266 := Tryz.func99.trans (congrArg some (by kernel_rfl))
  t3 := Tryz.underlying3
  a3 := Tryz.isAgg3
  z3 := Tryz.sizeOf3
  v3 := Tryz.zeroValue3
  t5 := Tryz.underlying5
  a5 := Tryz.isAgg5
  z5 := Tryz.sizeOf5
  v5 := Tryz.zeroValue5
  t9 := Tryz.underlying9
  a9 := Tryz.isAgg9
  z9 := Tryz.sizeOf9
  v9 := Tryz.zeroValue9 }
open Go.RowKit Go.Lib in
/-- internal/stringslite.IndexByte (what strings.IndexByte calls): IT RETURNS 'Lib.indexByte s c'; the world is as it was. (LAID: no walk: one application.) -/
theorem Tryz.stringslite_IndexByte (s : ByteArray) (c : Int) (w : World) :
    Calls Tryz.prog 93 #[.string s, .int .u8 c] w fun e w' => e = .returned (.int .i64 (Lib.indexByte s.data.toList c.toNat.toUInt8)) ∧ w' = w := Any.stringslite_IndexByte Tryz.lays217 s c w
def Tryz.lays224_ren : Go.Shelf.Ren := ⟨fun | 224 => 95 | n => n, fun | 3 => 3 | n => n, fun | n => n⟩
theorem Tryz.lays224 : Go.Proofs.Lays.n224 Tryz.prog Tryz.lays224_ren := {
  mixed := by kernel_rfl
  f224 := Tryz.func95.trans (congrArg some (by kernel_rfl))
  t3 := Tryz.underlying3
  a3 := Tryz.isAgg3
  z3 := Tryz.sizeOf3
  v3 := Tryz.zeroValue3 }
open Go.RowKit Go.Lib in
/-- internal/bytealg.Cutover: "Cutover reports the number of failures of IndexByte we should tolerate before switching over to Index. n is the number of bytes processed so far.": on amd64: (n + 16) / 8. (LAID: no walk: one application.) -/
theorem Tryz.bytealg_Cutover (n : Int) (h0 : 0 ≤ n) (h1 : n < 4611686018427387904) (w : World) :
    Calls Tryz.prog 95 #[.int .i64 n] w fun e w' => e = .returned (.int .i64 ((n + 16) / 8)) ∧ w' = w := Any.bytealg_Cutover Tryz.lays224 n h0 h1 w
def Tryz.lays314_ren : Go.Shelf.Ren := ⟨fun | 314 => 100 | n => n, fun | 9 => 9 | 51 => 123 | 3 => 3 | 4 => 4 | 5 => 5 | 46 => 97 | n => n, fun | n => n⟩
theorem Tryz.lays314 : Go.Proofs.Lays.n314 Tryz.prog Tryz.lays314_ren := {
  mixed := by kernel_rfl
  f314 := Tryz.func100.trans (congrArg some (by kernel_rfl))
  t3 := Tryz.underlying3
  a3 := Tryz.isAgg3
  z3 := Tryz.sizeOf3
  v3 := Tryz.zeroValue3
  t4 := Tryz.underlying4
  a4 := Tryz.isAgg4
  z4 := Tryz.sizeOf4
  v4 := Tryz.zeroValue4
  t5 := Tryz.underlying5
  a5 := Tryz.isAgg5
  z5 := Tryz.sizeOf5
  v5 := Tryz.zeroValue5
  t9 := Tryz.underlying9
  a9 := Tryz.isAgg9
  z9 := Tryz.sizeOf9
  v9 := Tryz.zeroValue9
  t46 := Tryz.underlying97
  a46 := Tryz.isAgg97
  z46 := Tryz.sizeOf97
  v46 := Tryz.zeroValue97
  t51 := Tryz.underlying123
  a51 := Tryz.isAgg123
  z51 := Tryz.sizeOf123
  v51 := Tryz.zeroValue123 }
open Go.RowKit Go.Lib in
/-- hashStr: "returns the hash and the appropriate multiplicative factor for use in Rabin-Karp algorithm": THE HASH OF ALL OF sep, AND 16777619 ^ len(sep), both in uint32. (LAID: no walk: one application.) -/
theorem Tryz.bytealg_hashStr (sep : ByteArray) (hs : sep.size < 4294967281) (w : World) :
    Calls Tryz.prog 100 #[.string sep] w fun e w' => e = .returned (.tuple #[.int .u32 (RK.H sep.data.toList % 4294967296), .int .u32 (16777619 ^ sep.size % 4294967296)]) ∧ w' = w := Any.bytealg_hashStr Tryz.lays314 sep hs w
def Tryz.lays267_ren : Go.Shelf.Ren := ⟨fun | 267 => 96 | 314 => 100 | n => n, fun | 9 => 9 | 3 => 3 | 146 => 124 | 51 => 123 | 4 => 4 | 5 => 5 | 46 => 97 | n => n, fun | n => n⟩
theorem Tryz.lays267 : Go.Proofs.Lays.n267 Tryz.prog Tryz.lays267_ren := {
  mixed := by kernel_rfl
  f267 := Tryz.func96.trans (congrArg some (by kernel_rfl))
  f314 := Tryz.func100.trans (congrArg some (by kernel_rfl))
  t3 := Tryz.underlying3
  a3 := Tryz.isAgg3
  z3 := Tryz.sizeOf3
  v3 := Tryz.zeroValue3
  t4 := Tryz.underlying4
  a4 := Tryz.isAgg4
  z4 := Tryz.sizeOf4
  v4 := Tryz.zeroValue4
  t5 := Tryz.underlying5
  a5 := Tryz.isAgg5
  z5 := Tryz.sizeOf5
  v5 := Tryz.zeroValue5
  t9 := Tryz.underlying9
  a9 := Tryz.isAgg9
  z9 := Tryz.sizeOf9
  v9 := Tryz.zeroValue9
  t46 := Tryz.underlying97
  a46 := Tryz.isAgg97
  z46 := Tryz.sizeOf97
  v46 := Tryz.zeroValue97
  t51 := Tryz.underlying123
  a51 := Tryz.isAgg123
  z51 := Tryz.sizeOf123
  v51 := Tryz.zeroValue123
  t146 := Tryz.underlying124
  a146 := Tryz.isAgg124
  z146 := Tryz.sizeOf124
  v146 := Tryz.zeroValue124 }
open Go.RowKit Go.Lib in
theorem Tryz.bytealg_IndexRabinKarp (s sep : ByteArray) (h1 : 1 ≤ sep.size) (h2 : sep.size ≤ s.size) (hs : s.size < 4294967281) (w : World) :
    Calls Tryz.prog 96 #[.string s, .string sep] w fun e w' => e = .returned (.int .i64 (Lib.index s.data.toList sep.data.toList)) ∧ w' = w := Any.bytealg_IndexRabinKarp Tryz.lays267 s sep h1 h2 hs w
def Tryz.lays219_ren : Go.Shelf.Ren := ⟨fun | 219 => 87 | 217 => 93 | 225 => 94 | 224 => 95 | 267 => 96 | 266 => 99 | 314 => 100 | n => n, fun | 9 => 9 | 3 => 3 | 4 => 4 | 5 => 5 | 46 => 97 | 146 => 124 | 51 => 123 | n => n, fun | 1 => 0 | n => n⟩
theorem Tryz.lays219 : Go.Proofs.Lays.n219 Tryz.prog Tryz.lays219_ren := {
  mixed := by kernel_rfl
  f217 := Tryz.func93.trans (congrArg some (by kernel_rfl))
  f219 := Tryz.func87.trans (congrArg some (by kernel_rfl))
  f224 := Tryz.func95.trans (congrArg some (by kernel_rfl))
  f225 := Tryz.func94.trans (congrArg some (by kernel_rfl))
  f266 := Tryz.func99.trans (congrArg some (by kernel_rfl))
  f267 := Tryz.func96.trans (congrArg some (by kernel_rfl))
  f314 := Tryz.func100.trans (congrArg some (by kernel_rfl))
  t3 := Tryz.underlying3
  a3 := Tryz.isAgg3
  z3 := Tryz.sizeOf3
  v3 := Tryz.zeroValue3
  t4 := Tryz.underlying4
  a4 := Tryz.isAgg4
  z4 := Tryz.sizeOf4
  v4 := Tryz.zeroValue4
  t5 := Tryz.underlying5
  a5 := Tryz.isAgg5
  z5 := Tryz.sizeOf5
  v5 := Tryz.zeroValue5
  t9 := Tryz.underlying9
  a9 := Tryz.isAgg9
  z9 := Tryz.sizeOf9
  v9 := Tryz.zeroValue9
  t46 := Tryz.underlying97
  a46 := Tryz.isAgg97
  z46 := Tryz.sizeOf97
  v46 := Tryz.zeroValue97
  t51 := Tryz.underlying123
  a51 := Tryz.isAgg123
  z51 := Tryz.sizeOf123
  v51 := Tryz.zeroValue123
  t146 := Tryz.underlying124
  a146 := Tryz.isAgg124
  z146 := Tryz.sizeOf124
  v146 := Tryz.zeroValue124
  g1 := by kernel_rfl }
open Go.RowKit Go.Lib in
/-- internal/stringslite.Index (what strings.Index calls) AT A substr OF ONE BYTE c: IT RETURNS 'Lib.indexByte s c'; the world is as it was. (LAID: no walk: one application.) -/
theorem Tryz.stringslite_Index_one (s : ByteArray) (c : UInt8) (w : World) :
    Calls Tryz.prog 87 #[.string s, .string ⟨#[c]⟩] w fun e w' => e = .returned (.int .i64 (Lib.indexByte s.data.toList c)) ∧ w' = w := Any.stringslite_Index_one Tryz.lays219 s c w
open Go.RowKit Go.Lib in
/-- internal/stringslite.Index (what strings.Index calls) AT A substr OF WHATEVER LENGTH: IT RETURNS 'Lib.index s substr'; the world is as it was. 'm': what internal/bytealg.MaxLen holds: whatever. (LAID: no walk: one application.) -/
theorem Tryz.stringslite_Index (s sub : ByteArray) (m : Int) (w : World) (hs : s.size < 4294967281) (hm : w.cell? ⟨0, 0, none⟩ = some (.int .i64 m)) :
    Calls Tryz.prog 87 #[.string s, .string sub] w fun e w' => e = .returned (.int .i64 (Lib.index s.data.toList sub.data.toList)) ∧ w' = w := Any.stringslite_Index Tryz.lays219 s sub m w hs hm
def Tryz.lays143_ren : Go.Shelf.Ren := ⟨fun | 143 => 73 | 219 => 87 | 217 => 93 | 225 => 94 | 224 => 95 | 267 => 96 | 266 => 99 | 314 => 100 | n => n, fun | 9 => 9 | 3 => 3 | 4 => 4 | 5 => 5 | 46 => 97 | 146 => 124 | 51 => 123 | n => n, fun | 1 => 0 | n => n⟩
theorem Tryz.lays143 : Go.Proofs.Lays.n143 Tryz.prog Tryz.lays143_ren := {
  mixed := by kernel_rfl
  f143 := Tryz.func73.trans (congrArg some (by kernel_rfl))
  f217 := Tryz.func93.trans (congrArg some (by kernel_rfl))
  f219 := Tryz.func87.trans (congrArg some (by kernel_rfl))
  f224 := Tryz.func95.trans (congrArg some (by kernel_rfl))
  f225 := Tryz.func94.trans (congrArg some (by kernel_rfl))
  f266 := Tryz.func99.trans (congrArg some (by kernel_rfl))
  f267 := Tryz.func96.trans (congrArg some (by kernel_rfl))
  f314 := Tryz.func100.trans (congrArg some (by kernel_rfl))
  t3 := Tryz.underlying3
  a3 := Tryz.isAgg3
  z3 := Tryz.sizeOf3
  v3 := Tryz.zeroValue3
  t4 := Tryz.underlying4
  a4 := Tryz.isAgg4
  z4 := Tryz.sizeOf4
  v4 := Tryz.zeroValue4
  t5 := Tryz.underlying5
  a5 := Tryz.isAgg5
  z5 := Tryz.sizeOf5
  v5 := Tryz.zeroValue5
  t9 := Tryz.underlying9
  a9 := Tryz.isAgg9
  z9 := Tryz.sizeOf9
  v9 := Tryz.zeroValue9
  t46 := Tryz.underlying97
  a46 := Tryz.isAgg97
  z46 := Tryz.sizeOf97
  v46 := Tryz.zeroValue97
  t51 := Tryz.underlying123
  a51 := Tryz.isAgg123
  z51 := Tryz.sizeOf123
  v51 := Tryz.zeroValue123
  t146 := Tryz.underlying124
  a146 := Tryz.isAgg124
  z146 := Tryz.sizeOf124
  v146 := Tryz.zeroValue124
  g1 := by kernel_rfl }
open Go.RowKit Go.Lib in
/-- strings.Index: "Index returns the index of the first instance of substr in s, or -1 if substr is not present in s.": AT A substr OF ONE BYTE c: IT RETURNS 'Lib.indexByte s c'; the world is as it was. (LAID: no walk: one application.) -/
theorem Tryz.strings_Index_one (s : ByteArray) (c : UInt8) (w : World) :
    Calls Tryz.prog 73 #[.string s, .string ⟨#[c]⟩] w fun e w' => e = .returned (.int .i64 (Lib.indexByte s.data.toList c)) ∧ w' = w := Any.strings_Index_one Tryz.lays143 s c w
open Go.RowKit Go.Lib in
/-- strings.Index: "Index returns the index of the first instance of substr in s, or -1 if substr is not present in s.": IT RETURNS 'Lib.index s substr'; the world is as it was. (LAID: no walk: one application.) -/
theorem Tryz.strings_Index (s sub : ByteArray) (m : Int) (w : World) (hs : s.size < 4294967281) (hm : w.cell? ⟨0, 0, none⟩ = some (.int .i64 m)) :
    Calls Tryz.prog 73 #[.string s, .string sub] w fun e w' => e = .returned (.int .i64 (Lib.index s.data.toList sub.data.toList)) ∧ w' = w := Any.strings_Index Tryz.lays143 s sub m w hs hm
def Tryz.lays138_ren : Go.Shelf.Ren := ⟨fun | 138 => 72 | 195 => 84 | 218 => 86 | 143 => 73 | 219 => 87 | 217 => 93 | 225 => 94 | 224 => 95 | 267 => 96 | 266 => 99 | 314 => 100 | n => n, fun | 9 => 9 | 3 => 3 | 4 => 4 | 5 => 5 | 0 => 0 | 46 => 97 | 146 => 124 | 51 => 123 | n => n, fun | 1 => 0 | n => n⟩
theorem Tryz.lays138 : Go.Proofs.Lays.n138 Tryz.prog Tryz.lays138_ren := {
  mixed := by kernel_rfl
  f138 := Tryz.func72.trans (congrArg some (by kernel_rfl))
  f143 := Tryz.func73.trans (congrArg some (by kernel_rfl))
  f195 := Tryz.func84.trans (congrArg some (by kernel_rfl))
  f217 := Tryz.func93.trans (congrArg some (by kernel_rfl))
  f218 := Tryz.func86.trans (congrArg some (by kernel_rfl))
  f219 := Tryz.func87.trans (congrArg some (by kernel_rfl))
  f224 := Tryz.func95.trans (congrArg some (by kernel_rfl))
  f225 := Tryz.func94.trans (congrArg some (by kernel_rfl))
  f266 := Tryz.func99.trans (congrArg some (by kernel_rfl))
  f267 := Tryz.func96.trans (congrArg some (by kernel_rfl))
  f314 := Tryz.func100.trans (congrArg some (by kernel_rfl))
  t0 := Tryz.underlying0
  a0 := Tryz.isAgg0
  z0 := Tryz.sizeOf0
  v0 := Tryz.zeroValue0
  t3 := Tryz.underlying3
  a3 := Tryz.isAgg3
  z3 := Tryz.sizeOf3
  v3 := Tryz.zeroValue3
  t4 := Tryz.underlying4
  a4 := Tryz.isAgg4
  z4 := Tryz.sizeOf4
  v4 := Tryz.zeroValue4
  t5 := Tryz.underlying5
  a5 := Tryz.isAgg5
  z5 := Tryz.sizeOf5
  v5 := Tryz.zeroValue5
  t9 := Tryz.underlying9
  a9 := Tryz.isAgg9
  z9 := Tryz.sizeOf9
  v9 := Tryz.zeroValue9
  t46 := Tryz.underlying97
  a46 := Tryz.isAgg97
  z46 := Tryz.sizeOf97
  v46 := Tryz.zeroValue97
  t51 := Tryz.underlying123
  a51 := Tryz.isAgg123
  z51 := Tryz.sizeOf123
  v51 := Tryz.zeroValue123
  t146 := Tryz.underlying124
  a146 := Tryz.isAgg124
  z146 := Tryz.sizeOf124
  v146 := Tryz.zeroValue124
  g1 := by kernel_rfl }
open Go.RowKit Go.Lib in
/-- strings.Count AT A substr OF ONE BYTE ('hp'): "Count counts the number of non-overlapping instances of substr in s.": IT RETURNS 'Lib.countByte s (that byte)'; the world is as it was. ✋ NO CONTRACT HERE YET at an empty substr (utf8.RuneCountInString) or at a longer one (a loop over strings.Index). (LAID: no walk: one application.) -/
theorem Tryz.strings_Count_one (s : ByteArray) (c : UInt8) (w : World) :
    Calls Tryz.prog 72 #[.string s, .string ⟨#[c]⟩] w fun e w' => e = .returned (.int .i64 (Lib.countByte s.data.toList c)) ∧ w' = w := Any.strings_Count_one Tryz.lays138 s c w
open Go.RowKit Go.Lib in
/-- strings.Count AT A substr OF TWO BYTES OR MORE: "Count counts the number of non-overlapping instances of substr in s.": IT RETURNS 'Lib.count s substr'; the world is as it was. (LAID: no walk: one application.) -/
theorem Tryz.strings_Count (s sub : ByteArray) (m : Int) (w : World) (hs : s.size < 4294967281) (hm : w.cell? ⟨0, 0, none⟩ = some (.int .i64 m)) (h2 : 2 ≤ sub.size) :
    Calls Tryz.prog 72 #[.string s, .string sub] w fun e w' => e = .returned (.int .i64 (Lib.countB s sub)) ∧ w' = w := Any.strings_Count Tryz.lays138 s sub m w hs hm h2
def Tryz.laysM219_ren : Go.Shelf.Ren := ⟨fun | 219 => 87 | 217 => 93 | 225 => 94 | 224 => 95 | 267 => 96 | 266 => 99 | 314 => 100 | n => n, fun | 9 => 9 | 3 => 3 | 4 => 4 | 5 => 5 | 46 => 97 | 146 => 124 | 51 => 123 | n => n, fun | 1 => 0 | n => n⟩
theorem Tryz.laysM219 : Go.Proofs.LaysM.n219 Tryz.prog Tryz.laysM219_ren := {
  mixed := by kernel_rfl
  f217 := Tryz.func93.trans (congrArg some (by kernel_rfl))
  f219 := Tryz.func87.trans (congrArg some (by kernel_rfl))
  f224 := Tryz.func95.trans (congrArg some (by kernel_rfl))
  f225 := Tryz.func94.trans (congrArg some (by kernel_rfl))
  f266 := Tryz.func99.trans (congrArg some (by kernel_rfl))
  f267 := Tryz.func96.trans (congrArg some (by kernel_rfl))
  f314 := Tryz.func100.trans (congrArg some (by kernel_rfl))
  t3 := Tryz.underlying3
  a3 := Tryz.isAgg3
  z3 := Tryz.sizeOf3
  v3 := Tryz.zeroValue3
  t4 := Tryz.underlying4
  a4 := Tryz.isAgg4
  z4 := Tryz.sizeOf4
  v4 := Tryz.zeroValue4
  t5 := Tryz.underlying5
  a5 := Tryz.isAgg5
  z5 := Tryz.sizeOf5
  v5 := Tryz.zeroValue5
  t9 := Tryz.underlying9
  a9 := Tryz.isAgg9
  z9 := Tryz.sizeOf9
  v9 := Tryz.zeroValue9
  t46 := Tryz.underlying97
  a46 := Tryz.isAgg97
  z46 := Tryz.sizeOf97
  v46 := Tryz.zeroValue97
  t51 := Tryz.underlying123
  a51 := Tryz.isAgg123
  z51 := Tryz.sizeOf123
  v51 := Tryz.zeroValue123
  t146 := Tryz.underlying124
  a146 := Tryz.isAgg124
  z146 := Tryz.sizeOf124
  v146 := Tryz.zeroValue124
  g1 := by kernel_rfl
  i3 := by kernel_rfl
  i4 := by kernel_rfl
  i5 := by kernel_rfl
  i9 := by kernel_rfl
  i46 := by kernel_rfl
  i51 := by kernel_rfl
  i146 := by kernel_rfl
  m1 := by kernel_rfl
  s1_3 := fun w h => Go.Proofs.cell_of_shapedOpen_int (zero := #[.int .i64 0]) (t := 3) h (of_decide_eq_true (by kernel_rfl)) (by kernel_rfl) rfl (by kernel_rfl) (by kernel_rfl) Tryz.underlying3 }
open Go.RowKit Go.Lib in
theorem Tryz.stringslite_Index_shaped (s sub : ByteArray) (w : World) (h : w.ShapedOpen Tryz.prog) (hs : s.size < 4294967281) :
    Calls Tryz.prog 87 #[.string s, .string sub] w fun e w' => e = .returned (.int .i64 (Lib.index s.data.toList sub.data.toList)) ∧ w' = w := Any.stringslite_Index_shaped Tryz.laysM219 s sub w h hs
def Tryz.laysM143_ren : Go.Shelf.Ren := ⟨fun | 143 => 73 | 219 => 87 | 217 => 93 | 225 => 94 | 224 => 95 | 267 => 96 | 266 => 99 | 314 => 100 | n => n, fun | 9 => 9 | 3 => 3 | 4 => 4 | 5 => 5 | 46 => 97 | 146 => 124 | 51 => 123 | n => n, fun | 1 => 0 | n => n⟩
theorem Tryz.laysM143 : Go.Proofs.LaysM.n143 Tryz.prog Tryz.laysM143_ren := {
  mixed := by kernel_rfl
  f143 := Tryz.func73.trans (congrArg some (by kernel_rfl))
  f217 := Tryz.func93.trans (congrArg some (by kernel_rfl))
  f219 := Tryz.func87.trans (congrArg some (by kernel_rfl))
  f224 := Tryz.func95.trans (congrArg some (by kernel_rfl))
  f225 := Tryz.func94.trans (congrArg some (by kernel_rfl))
  f266 := Tryz.func99.trans (congrArg some (by kernel_rfl))
  f267 := Tryz.func96.trans (congrArg some (by kernel_rfl))
  f314 := Tryz.func100.trans (congrArg some (by kernel_rfl))
  t3 := Tryz.underlying3
  a3 := Tryz.isAgg3
  z3 := Tryz.sizeOf3
  v3 := Tryz.zeroValue3
  t4 := Tryz.underlying4
  a4 := Tryz.isAgg4
  z4 := Tryz.sizeOf4
  v4 := Tryz.zeroValue4
  t5 := Tryz.underlying5
  a5 := Tryz.isAgg5
  z5 := Tryz.sizeOf5
  v5 := Tryz.zeroValue5
  t9 := Tryz.underlying9
  a9 := Tryz.isAgg9
  z9 := Tryz.sizeOf9
  v9 := Tryz.zeroValue9
  t46 := Tryz.underlying97
  a46 := Tryz.isAgg97
  z46 := Tryz.sizeOf97
  v46 := Tryz.zeroValue97
  t51 := Tryz.underlying123
  a51 := Tryz.isAgg123
  z51 := Tryz.sizeOf123
  v51 := Tryz.zeroValue123
  t146 := Tryz.underlying124
  a146 := Tryz.isAgg124
  z146 := Tryz.sizeOf124
  v146 := Tryz.zeroValue124
  g1 := by kernel_rfl
  i3 := by kernel_rfl
  i4 := by kernel_rfl
  i5 := by kernel_rfl
  i9 := by kernel_rfl
  i46 := by kernel_rfl
  i51 := by kernel_rfl
  i146 := by kernel_rfl
  m1 := by kernel_rfl
  s1_3 := fun w h => Go.Proofs.cell_of_shapedOpen_int (zero := #[.int .i64 0]) (t := 3) h (of_decide_eq_true (by kernel_rfl)) (by kernel_rfl) rfl (by kernel_rfl) (by kernel_rfl) Tryz.underlying3 }
open Go.RowKit Go.Lib in
theorem Tryz.strings_Index_shaped (s sub : ByteArray) (w : World) (h : w.ShapedOpen Tryz.prog) (hs : s.size < 4294967281) :
    Calls Tryz.prog 73 #[.string s, .string sub] w fun e w' => e = .returned (.int .i64 (Lib.index s.data.toList sub.data.toList)) ∧ w' = w := Any.strings_Index_shaped Tryz.laysM143 s sub w h hs
def Tryz.laysM138_ren : Go.Shelf.Ren := ⟨fun | 138 => 72 | 195 => 84 | 218 => 86 | 143 => 73 | 219 => 87 | 217 => 93 | 225 => 94 | 224 => 95 | 267 => 96 | 266 => 99 | 314 => 100 | n => n, fun | 9 => 9 | 3 => 3 | 4 => 4 | 5 => 5 | 0 => 0 | 46 => 97 | 146 => 124 | 51 => 123 | n => n, fun | 1 => 0 | n => n⟩
theorem Tryz.laysM138 : Go.Proofs.LaysM.n138 Tryz.prog Tryz.laysM138_ren := {
  mixed := by kernel_rfl
  f138 := Tryz.func72.trans (congrArg some (by kernel_rfl))
  f143 := Tryz.func73.trans (congrArg some (by kernel_rfl))
  f195 := Tryz.func84.trans (congrArg some (by kernel_rfl))
  f217 := Tryz.func93.trans (congrArg some (by kernel_rfl))
  f218 := Tryz.func86.trans (congrArg some (by kernel_rfl))
  f219 := Tryz.func87.trans (congrArg some (by kernel_rfl))
  f224 := Tryz.func95.trans (congrArg some (by kernel_rfl))
  f225 := Tryz.func94.trans (congrArg some (by kernel_rfl))
  f266 := Tryz.func99.trans (congrArg some (by kernel_rfl))
  f267 := Tryz.func96.trans (congrArg some (by kernel_rfl))
  f314 := Tryz.func100.trans (congrArg some (by kernel_rfl))
  t0 := Tryz.underlying0
  a0 := Tryz.isAgg0
  z0 := Tryz.sizeOf0
  v0 := Tryz.zeroValue0
  t3 := Tryz.underlying3
  a3 := Tryz.isAgg3
  z3 := Tryz.sizeOf3
  v3 := Tryz.zeroValue3
  t4 := Tryz.underlying4
  a4 := Tryz.isAgg4
  z4 := Tryz.sizeOf4
  v4 := Tryz.zeroValue4
  t5 := Tryz.underlying5
  a5 := Tryz.isAgg5
  z5 := Tryz.sizeOf5
  v5 := Tryz.zeroValue5
  t9 := Tryz.underlying9
  a9 := Tryz.isAgg9
  z9 := Tryz.sizeOf9
  v9 := Tryz.zeroValue9
  t46 := Tryz.underlying97
  a46 := Tryz.isAgg97
  z46 := Tryz.sizeOf97
  v46 := Tryz.zeroValue97
  t51 := Tryz.underlying123
  a51 := Tryz.isAgg123
  z51 := Tryz.sizeOf123
  v51 := Tryz.zeroValue123
  t146 := Tryz.underlying124
  a146 := Tryz.isAgg124
  z146 := Tryz.sizeOf124
  v146 := Tryz.zeroValue124
  g1 := by kernel_rfl
  i0 := by kernel_rfl
  i3 := by kernel_rfl
  i4 := by kernel_rfl
  i5 := by kernel_rfl
  i9 := by kernel_rfl
  i46 := by kernel_rfl
  i51 := by kernel_rfl
  i146 := by kernel_rfl
  m1 := by kernel_rfl
  s1_3 := fun w h => Go.Proofs.cell_of_shapedOpen_int (zero := #[.int .i64 0]) (t := 3) h (of_decide_eq_true (by kernel_rfl)) (by kernel_rfl) rfl (by kernel_rfl) (by kernel_rfl) Tryz.underlying3 }
open Go.RowKit Go.Lib in
theorem Tryz.strings_Count_shaped (s sub : ByteArray) (w : World) (h : w.ShapedOpen Tryz.prog) (hs : s.size < 4294967281) (h2 : 2 ≤ sub.size) :
    Calls Tryz.prog 72 #[.string s, .string sub] w fun e w' => e = .returned (.int .i64 (Lib.countB s sub)) ∧ w' = w := Any.strings_Count_shaped Tryz.laysM138 s sub w h hs h2
def Tryz.lays206_ren : Go.Shelf.Ren := ⟨fun | 206 => 70 | n => n, fun | 9 => 9 | 4 => 4 | 3 => 3 | n => n, fun | n => n⟩
theorem Tryz.lays206 : Go.Proofs.Lays.n206 Tryz.prog Tryz.lays206_ren := {
  mixed := by kernel_rfl
  f206 := Tryz.func70.trans (congrArg some (by kernel_rfl))
  t3 := Tryz.underlying3
  a3 := Tryz.isAgg3
  z3 := Tryz.sizeOf3
  v3 := Tryz.zeroValue3
  t4 := Tryz.underlying4
  a4 := Tryz.isAgg4
  z4 := Tryz.sizeOf4
  v4 := Tryz.zeroValue4
  t9 := Tryz.underlying9
  a9 := Tryz.isAgg9
  z9 := Tryz.sizeOf9
  v9 := Tryz.zeroValue9 }
open Go.RowKit Go.Lib in
/-- internal/stringslite.HasPrefix (what strings.HasPrefix calls). (LAID: no walk: one application.) -/
theorem Tryz.stringslite_HasPrefix (s p : ByteArray) (w : World) :
    Calls Tryz.prog 70 #[.string s, .string p] w fun e w' => e = .returned (.bool (Lib.hasPrefix s.data.toList p.data.toList)) ∧ w' = w := Any.stringslite_HasPrefix Tryz.lays206 s p w
def Tryz.lays152_ren : Go.Shelf.Ren := ⟨fun | 152 => 97 | 137 => 101 | 119 => 102 | 224 => 95 | 225 => 94 | 217 => 93 | 266 => 99 | n => n, fun | 9 => 9 | 21 => 21 | 3 => 3 | 4 => 4 | 5 => 5 | 0 => 0 | 46 => 97 | n => n, fun | n => n⟩
theorem Tryz.lays152 : Go.Proofs.Lays.n152 Tryz.prog Tryz.lays152_ren := {
  mixed := by kernel_rfl
  f119 := Tryz.func102.trans (congrArg some (by kernel_rfl))
  f137 := Tryz.func101.trans (congrArg some (by kernel_rfl))
  f152 := Tryz.func97.trans (congrArg some (by kernel_rfl))
  f217 := Tryz.func93.trans (congrArg some (by kernel_rfl))
  f224 := Tryz.func95.trans (congrArg some (by kernel_rfl))
  f225 := Tryz.func94.trans (congrArg some (by kernel_rfl))
  f266 := Tryz.func99.trans (congrArg some (by kernel_rfl))
  t0 := Tryz.underlying0
  a0 := Tryz.isAgg0
  z0 := Tryz.sizeOf0
  v0 := Tryz.zeroValue0
  t3 := Tryz.underlying3
  a3 := Tryz.isAgg3
  z3 := Tryz.sizeOf3
  v3 := Tryz.zeroValue3
  t4 := Tryz.underlying4
  a4 := Tryz.isAgg4
  z4 := Tryz.sizeOf4
  v4 := Tryz.zeroValue4
  t5 := Tryz.underlying5
  a5 := Tryz.isAgg5
  z5 := Tryz.sizeOf5
  v5 := Tryz.zeroValue5
  t9 := Tryz.underlying9
  a9 := Tryz.isAgg9
  z9 := Tryz.sizeOf9
  v9 := Tryz.zeroValue9
  t21 := Tryz.underlying21
  a21 := Tryz.isAgg21
  z21 := Tryz.sizeOf21
  v21 := Tryz.zeroValue21
  t46 := Tryz.underlying97
  a46 := Tryz.isAgg97
  z46 := Tryz.sizeOf97
  v46 := Tryz.zeroValue97 }
open Go.RowKit Go.Lib in
theorem Tryz.strings_IndexRune_ascii (s : ByteArray) (r : Int) (w : World) (h0 : 0 ≤ r) (h1 : r < 128) :
    Calls Tryz.prog 97 #[.string s, .int .i32 r] w fun e w' => e = .returned (.int .i64 (Lib.indexByte s.data.toList r.toNat.toUInt8)) ∧ w' = w := Any.strings_IndexRune_ascii Tryz.lays152 s r w h0 h1
def Tryz.lays151_ren : Go.Shelf.Ren := ⟨fun | 151 => 89 | 152 => 97 | 137 => 101 | 119 => 102 | 224 => 95 | 225 => 94 | 217 => 93 | 266 => 99 | n => n, fun | 9 => 9 | 21 => 21 | 4 => 4 | 3 => 3 | 5 => 5 | 0 => 0 | 46 => 97 | n => n, fun | n => n⟩
theorem Tryz.lays151 : Go.Proofs.Lays.n151 Tryz.prog Tryz.lays151_ren := {
  mixed := by kernel_rfl
  f119 := Tryz.func102.trans (congrArg some (by kernel_rfl))
  f137 := Tryz.func101.trans (congrArg some (by kernel_rfl))
  f151 := Tryz.func89.trans (congrArg some (by kernel_rfl))
  f152 := Tryz.func97.trans (congrArg some (by kernel_rfl))
  f217 := Tryz.func93.trans (congrArg some (by kernel_rfl))
  f224 := Tryz.func95.trans (congrArg some (by kernel_rfl))
  f225 := Tryz.func94.trans (congrArg some (by kernel_rfl))
  f266 := Tryz.func99.trans (congrArg some (by kernel_rfl))
  t0 := Tryz.underlying0
  a0 := Tryz.isAgg0
  z0 := Tryz.sizeOf0
  v0 := Tryz.zeroValue0
  t3 := Tryz.underlying3
  a3 := Tryz.isAgg3
  z3 := Tryz.sizeOf3
  v3 := Tryz.zeroValue3
  t4 := Tryz.underlying4
  a4 := Tryz.isAgg4
  z4 := Tryz.sizeOf4
  v4 := Tryz.zeroValue4
  t5 := Tryz.underlying5
  a5 := Tryz.isAgg5
  z5 := Tryz.sizeOf5
  v5 := Tryz.zeroValue5
  t9 := Tryz.underlying9
  a9 := Tryz.isAgg9
  z9 := Tryz.sizeOf9
  v9 := Tryz.zeroValue9
  t21 := Tryz.underlying21
  a21 := Tryz.isAgg21
  z21 := Tryz.sizeOf21
  v21 := Tryz.zeroValue21
  t46 := Tryz.underlying97
  a46 := Tryz.isAgg97
  z46 := Tryz.sizeOf97
  v46 := Tryz.zeroValue97 }
open Go.RowKit Go.Lib in
theorem Tryz.strings_ContainsRune_ascii (s : ByteArray) (r : Int) (w : World) (h0 : 0 ≤ r) (h1 : r < 128) :
    Calls Tryz.prog 89 #[.string s, .int .i32 r] w fun e w' => e = .returned (.bool (decide (0 ≤ Lib.indexByte s.data.toList r.toNat.toUInt8))) ∧ w' = w := Any.strings_ContainsRune_ascii Tryz.lays151 s r w h0 h1
def Tryz.lays227_ren : Go.Shelf.Ren := ⟨fun | 227 => 76 | n => n, fun | 9 => 9 | 116 => 105 | 4 => 4 | 0 => 0 | 3 => 3 | 5 => 5 | n => n, fun | n => n⟩
theorem Tryz.lays227 : Go.Proofs.Lays.n227 Tryz.prog Tryz.lays227_ren := {
  mixed := by kernel_rfl
  f227 := Tryz.func76.trans (congrArg some (by kernel_rfl))
  t0 := Tryz.underlying0
  a0 := Tryz.isAgg0
  z0 := Tryz.sizeOf0
  v0 := Tryz.zeroValue0
  t3 := Tryz.underlying3
  a3 := Tryz.isAgg3
  z3 := Tryz.sizeOf3
  v3 := Tryz.zeroValue3
  t4 := Tryz.underlying4
  a4 := Tryz.isAgg4
  z4 := Tryz.sizeOf4
  v4 := Tryz.zeroValue4
  t5 := Tryz.underlying5
  a5 := Tryz.isAgg5
  z5 := Tryz.sizeOf5
  v5 := Tryz.zeroValue5
  t9 := Tryz.underlying9
  a9 := Tryz.isAgg9
  z9 := Tryz.sizeOf9
  v9 := Tryz.zeroValue9
  t116 := Tryz.underlying105
  a116 := Tryz.isAgg105
  z116 := Tryz.sizeOf105 }
open Go.RowKit Go.Lib in
theorem Tryz.strings_makeASCIISet (hv116 : ∀ w, (zeroValue 105).run Tryz.prog w = .ok (.agg (Array.replicate 256 (.bool false))) w) (chars : ByteArray) (w : World) (hs : chars.size < 4294967281) (hascii : ∀ (j : Nat) b, chars.data.toList[j]? = some b → b.toNat < 128) :
    Calls Tryz.prog 76 #[.string chars] w fun e w' => e = .returned (.tuple #[.agg (Lib.setCells chars.data.toList), .bool true]) ∧ w' = w.alloc (.cells (Lib.setCells chars.data.toList) 105) := Any.strings_makeASCIISet Tryz.lays227 hv116 (by kernel_rfl) chars w hs hascii
def Tryz.lays228_ren : Go.Shelf.Ren := ⟨fun | 228 => 88 | n => n, fun | 124 => 109 | 5 => 5 | 4 => 4 | 0 => 0 | 116 => 105 | n => n, fun | n => n⟩
theorem Tryz.lays228 : Go.Proofs.Lays.n228 Tryz.prog Tryz.lays228_ren := {
  mixed := by kernel_rfl
  f228 := Tryz.func88.trans (congrArg some (by kernel_rfl))
  t0 := Tryz.underlying0
  a0 := Tryz.isAgg0
  z0 := Tryz.sizeOf0
  v0 := Tryz.zeroValue0
  t4 := Tryz.underlying4
  a4 := Tryz.isAgg4
  z4 := Tryz.sizeOf4
  v4 := Tryz.zeroValue4
  t5 := Tryz.underlying5
  a5 := Tryz.isAgg5
  z5 := Tryz.sizeOf5
  v5 := Tryz.zeroValue5
  t116 := Tryz.underlying105
  a116 := Tryz.isAgg105
  z116 := Tryz.sizeOf105
  t124 := Tryz.underlying109
  a124 := Tryz.isAgg109
  z124 := Tryz.sizeOf109
  v124 := Tryz.zeroValue109 }
open Go.RowKit Go.Lib in
/-- '(as *asciiSet) contains(c)': 'as[c]': the set lies at block b, whole. (LAID: no walk: one application.) -/
theorem Tryz.asciiSet_contains (b : Nat) (x : UInt8) (v : Bool) (w : World) (hc : w.cell? ⟨b, x.toNat, none⟩ = some (.bool v)) :
    Calls Tryz.prog 88 #[.pointer (some ⟨b, 0, none⟩), .int .u8 x.toNat] w fun e w' => e = .returned (.bool v) ∧ w' = w := Any.asciiSet_contains Tryz.lays228 b x v w hc
def Tryz.lays260_ren : Go.Shelf.Ren := ⟨fun | 260 => 92 | n => n, fun | 9 => 9 | 21 => 21 | 3 => 3 | 4 => 4 | 5 => 5 | 119 => 119 | 0 => 0 | 46 => 97 | 139 => 122 | 138 => 121 | n => n, fun | 3 => 1 | 4 => 2 | n => n⟩
theorem Tryz.lays260 : Go.Proofs.Lays.n260 Tryz.prog Tryz.lays260_ren := {
  mixed := by kernel_rfl
  f260 := Tryz.func92.trans (congrArg some (by kernel_rfl))
  t0 := Tryz.underlying0
  a0 := Tryz.isAgg0
  z0 := Tryz.sizeOf0
  v0 := Tryz.zeroValue0
  t3 := Tryz.underlying3
  a3 := Tryz.isAgg3
  z3 := Tryz.sizeOf3
  v3 := Tryz.zeroValue3
  t4 := Tryz.underlying4
  a4 := Tryz.isAgg4
  z4 := Tryz.sizeOf4
  v4 := Tryz.zeroValue4
  t5 := Tryz.underlying5
  a5 := Tryz.isAgg5
  z5 := Tryz.sizeOf5
  v5 := Tryz.zeroValue5
  t9 := Tryz.underlying9
  a9 := Tryz.isAgg9
  z9 := Tryz.sizeOf9
  v9 := Tryz.zeroValue9
  t21 := Tryz.underlying21
  a21 := Tryz.isAgg21
  z21 := Tryz.sizeOf21
  v21 := Tryz.zeroValue21
  t46 := Tryz.underlying97
  a46 := Tryz.isAgg97
  z46 := Tryz.sizeOf97
  v46 := Tryz.zeroValue97
  t119 := Tryz.underlying119
  a119 := Tryz.isAgg119
  z119 := Tryz.sizeOf119
  t138 := Tryz.underlying121
  a138 := Tryz.isAgg121
  z138 := Tryz.sizeOf121
  v138 := Tryz.zeroValue121
  t139 := Tryz.underlying122
  a139 := Tryz.isAgg122
  z139 := Tryz.sizeOf122
  v139 := Tryz.zeroValue122
  g3 := by kernel_rfl
  g4 := by kernel_rfl }
open Go.RowKit Go.Lib in
theorem Tryz.utf8_decodeRuneInStringSlow (s : ByteArray) (w : World) (hT : Lib.Utf8Tabs 1 2 w) :
    Calls Tryz.prog 92 #[.string s] w fun e w' => e = .returned (.tuple #[.int .i32 (Lib.decodeGo s).1, .int .i64 (Lib.decodeGo s).2]) ∧ Below w.heap.size w w' := Any.utf8_decodeRuneInStringSlow Tryz.lays260 s w hT
end Go.Proofs

namespace Go.Proofs.YtkcpcjhjemedpaaGreatDoor
open Go.Sy
set_option maxRecDepth 100000
set_option linter.all false
def stL (b : List UInt8) : List D := [.st b]
theorem arr2 {vs : Array Value} (h : vs.size = 2) : vs = #[vs.getD 0 undef, vs.getD 1 undef] := by
  apply Array.ext
  · simpa using h
  · intro i h1 h2
    have : i = 0 ∨ i = 1 := by simp at h2; omega
    rcases this with rfl | rfl <;> simp [Array.getD, h]
theorem join_ok (xs : List (List UInt8)) (sep : List UInt8) (hn : xs.length ≤ 1000000) (hl : (Lib.join xs sep).length ≤ 140737488355328) : FnC Tryz.prog 25 [.d (.fs 1 (xs.map stL)), .d (.st sep)] (.d (.st (Lib.join xs sep))) := by
  refine ⟨rfl, fun g w vs hfz hsz hav => .inl ⟨Tryz.call25 _ _, ?_⟩⟩
  have ha := hav 0 (by simp)
  have hb := hav 1 (by simp)
  rw [arr2 hsz]
  simp only [List.getElem_cons_zero, List.getElem_cons_succ] at ha hb
  generalize vs.getD 0 undef = a at ha
  generalize vs.getD 1 undef = b at hb
  cases hb with | d _ _ hb => ?_
  cases hb with | st => ?_
  cases ha with | d _ _ ha => ?_
  generalize hes : xs.map stL = es at ha
  cases ha with
  | fs0 _ ad cap =>
    have : xs = [] := by simpa using hes
    subst this
    refine (Tryz.strings_Join_none ad cap _ w).mono ?_
    rintro e w' ⟨rfl, rfl⟩
    exact ⟨_, g, rfl, .d _ _ (.st []), fun _ _ _ h => h, fun _ _ _ h => .inl h, hfz, Nat.le_refl _, fun _ _ => rfl, rfl, rfl, rfl⟩
  | fs _ _ b off len cap f hlen hc hs hF hr =>
    by_cases h0 : xs = []
    · subst h0
      have hl0 : len = 0 := by rw [← hlen, ← hes]; rfl
      subst hl0
      refine (Tryz.strings_Join_none _ cap _ w).mono ?_
      rintro e w' ⟨rfl, rfl⟩
      exact ⟨_, g, rfl, .d _ _ (.st []), fun _ _ _ h => h, fun _ _ _ h => .inl h, hfz, Nat.le_refl _, fun _ _ => rfl, rfl, rfl, rfl⟩
    have hxl : xs.length = len := by rw [← hlen, ← hes]; simp
    have hval : ∀ j (hj : j < xs.length), f j 0 = .string ⟨xs[j].toArray⟩ := fun j hj => by
      subst hes
      have hr := hr j (by simpa using hj) 0 (by simp [stL])
      simp only [List.getElem_map, stL, List.getElem_cons_zero] at hr
      generalize f j 0 = z at hr
      cases hr; rfl
    have hcell : ∀ j (hj : j < xs.length), w.cell? ⟨b, off + j, none⟩ = some (.string ⟨xs[j].toArray⟩) := fun j hj => by
      have := hfz _ _ _ (hF j 0 (by omega) (by omega))
      rw [hval j hj] at this
      rw [← this]; simp
    have hpos : 0 < xs.length := by
      rcases Nat.eq_zero_or_pos xs.length with h | h
      · exact absurd (List.length_eq_zero_iff.1 h) h0
      · exact h
    have hbk : b < w.heap.size := by
      have := hcell 0 hpos
      rcases Nat.lt_or_ge b w.heap.size with h' | h'
      · exact h'
      · simp [World.cell?, Array.getElem?_eq_none h'] at this
    have hxs : (xs.map fun x => (⟨x.toArray⟩ : ByteArray)).map (·.data.toList) = xs := by
      rw [List.map_map]
      exact List.map_id' xs
    have := Tryz.strings_Join b off cap (xs.map fun x => (⟨x.toArray⟩ : ByteArray)) ⟨sep.toArray⟩ w (fun j x hj => by
      simp only [List.getElem?_map, Option.map_eq_some_iff] at hj
      obtain ⟨y, hy, rfl⟩ := hj
      obtain ⟨hj', rfl⟩ := List.getElem?_eq_some_iff.1 hy
      exact hcell j hj') hbk (by simp; omega) (by simp; omega) (by rw [hxs]; simpa using hl)
    rw [hxs] at this
    simp only [List.length_map, hxl] at this
    refine this.mono ?_
    rintro e w' ⟨rfl, hB⟩
    exact ⟨_, g, rfl, .d _ _ (.st _), fun _ _ _ h => h, fun _ _ _ h => .inl h, fun b' o v h => by
      have hc := hfz b' o v h
      have hb' : b' < w.heap.size := by
        rcases Nat.lt_or_ge b' w.heap.size with h' | h'
        · exact h'
        · simp [World.cell?, Array.getElem?_eq_none h'] at hc
      rw [← hc]
      simp only [World.cell?, hB.block b' hb'], hB.size, hB.block, hB.os, hB.tape, hB.output⟩
theorem two_st {g : Gh} {vs : Array Value} {s t : List UInt8} (hsz : vs.size = 2) (hav : ∀ (j : Nat) (h : j < [AV.d (.st s), AV.d (.st t)].length), AVR g [AV.d (.st s), AV.d (.st t)][j] (vs.getD j undef)) : vs = #[.string ⟨s.toArray⟩, .string ⟨t.toArray⟩] := by
  have ha := hav 0 (by simp)
  have hb := hav 1 (by simp)
  rw [arr2 hsz]
  simp only [List.getElem_cons_zero, List.getElem_cons_succ] at ha hb
  generalize vs.getD 0 undef = a at ha
  generalize vs.getD 1 undef = b at hb
  cases hb with | d _ _ hb => ?_
  cases hb with | st => ?_
  cases ha with | d _ _ ha => ?_
  cases ha with | st => ?_
  rfl
theorem still_ok {f : Nat} {s t : List UInt8} {k : Int} (hc : ∀ (vs : Array Value) (w : World), (callFunc f vs).run Tryz.prog w = .ok (.enter f vs) w) (h : ∀ w, Calls Tryz.prog f #[.string ⟨s.toArray⟩, .string ⟨t.toArray⟩] w fun e w' => e = .returned (.int .i64 k) ∧ w' = w) : FnC Tryz.prog f [.d (.st s), .d (.st t)] (.d (.it .i64 k)) := by
  refine ⟨rfl, fun g w vs hfz hsz hav => .inl ⟨hc _ _, ?_⟩⟩
  rw [two_st hsz hav]
  refine (h w).mono ?_
  rintro e w' ⟨rfl, rfl⟩
  exact ⟨_, g, rfl, .d _ _ (.it _ _), fun _ _ _ h => h, fun _ _ _ h => .inl h, hfz, Nat.le_refl _, fun _ _ => rfl, rfl, rfl, rfl⟩
theorem index_ok (s : List UInt8) (c : UInt8) : FnC Tryz.prog 73 [.d (.st s), .d (.st [c])] (.d (.it .i64 (Lib.indexByte s c))) := still_ok Tryz.call73 fun w => Tryz.strings_Index_one ⟨s.toArray⟩ c w
theorem count_ok (s : List UInt8) (c : UInt8) : FnC Tryz.prog 72 [.d (.st s), .d (.st [c])] (.d (.it .i64 (Lib.countByte s c))) := still_ok Tryz.call72 fun w => Tryz.strings_Count_one ⟨s.toArray⟩ c w
theorem wordsC_none (c : UInt8) : ∀ (s : List UInt8), Lib.indexByte s c = -1 → wordsC c s = [s]
  | [], _ => rfl
  | b :: t, h => by
    unfold Lib.indexByte at h
    have hge := Lib.indexByte_ge t c
    by_cases hb : b = c
    · obtain rfl := hb; simp at h
    · have hb' : (b == c) = false := beq_eq_false_iff_ne.2 hb
      rw [hb'] at h
      simp only [Bool.false_eq_true, if_false] at h
      have ht : Lib.indexByte t c = -1 := by
        by_cases h1 : Lib.indexByte t c = -1
        · exact h1
        · have : (Lib.indexByte t c == -1) = false := by simpa using h1
          rw [this] at h
          simp only [Bool.false_eq_true, if_false] at h
          omega
      simp only [wordsC, if_neg hb, wordsC_none c t ht]
theorem wordsC_some (c : UInt8) : ∀ (s : List UInt8), 0 ≤ Lib.indexByte s c → Lib.indexByte s c < s.length ∧ wordsC c s = s.take (Lib.indexByte s c).toNat :: wordsC c (s.drop ((Lib.indexByte s c).toNat + 1)) ∧ s.count c = 1 + (s.drop ((Lib.indexByte s c).toNat + 1)).count c
  | [], h => by simp [Lib.indexByte] at h
  | b :: t, h => by
    have hge := Lib.indexByte_ge t c
    by_cases hb : b = c
    · obtain rfl := hb
      have e : Lib.indexByte (b :: t) b = 0 := by simp [Lib.indexByte]
      rw [e]
      refine ⟨by simp, by simp [wordsC], by simp; omega⟩
    · have hb' : (b == c) = false := beq_eq_false_iff_ne.2 hb
      have e : Lib.indexByte (b :: t) c = if Lib.indexByte t c == -1 then -1 else Lib.indexByte t c + 1 := by simp [Lib.indexByte, hb]
      rw [e] at h ⊢
      by_cases h1 : Lib.indexByte t c = -1
      · rw [h1] at h; simp at h
      · have h2 : (Lib.indexByte t c == -1) = false := by simpa using h1
        rw [h2] at h ⊢
        simp only [Bool.false_eq_true, if_false] at h ⊢
        obtain ⟨k1, k2, k3⟩ := wordsC_some c t (by omega)
        have hn : (Lib.indexByte t c + 1).toNat = (Lib.indexByte t c).toNat + 1 := by omega
        rw [hn]
        refine ⟨by simp; omega, ?_, ?_⟩
        · simp only [wordsC, if_neg hb, k2, List.take_succ_cons, List.drop_succ_cons]
        · simp only [List.drop_succ_cons, List.count_cons, hb', Bool.false_eq_true, if_false, Nat.add_zero]
          exact k3
theorem countC_none (c : UInt8) : ∀ (s : List UInt8), Lib.indexByte s c = -1 → s.count c = 0 := by
  intro s
  induction s with
  | nil => intro _; rfl
  | cons b t ih =>
    intro h
    have hge := Lib.indexByte_ge t c
    by_cases hb : b = c
    · obtain rfl := hb; simp [Lib.indexByte] at h
    · have e : Lib.indexByte (b :: t) c = if Lib.indexByte t c == -1 then -1 else Lib.indexByte t c + 1 := by simp [Lib.indexByte, hb]
      rw [e] at h
      by_cases h1 : Lib.indexByte t c = -1
      · have hb' : (b == c) = false := beq_eq_false_iff_ne.2 hb
        simp only [List.count_cons, hb', Bool.false_eq_true, if_false, Nat.add_zero]
        exact ih h1
      · have h2 : (Lib.indexByte t c == -1) = false := by simpa using h1
        rw [h2] at h
        simp only [Bool.false_eq_true, if_false] at h
        omega
theorem wordsC_len (c : UInt8) (s : List UInt8) : (wordsC c s).length = s.count c + 1 := by
  induction s with
  | nil => rfl
  | cons b t ih =>
    by_cases hb : b = c
    · obtain rfl := hb; simp [wordsC, ih]
    · have hb' : (b == c) = false := beq_eq_false_iff_ne.2 hb
      simp only [wordsC, if_neg hb, List.count_cons, hb', Bool.false_eq_true, if_false, Nat.add_zero]
      rw [← ih]
      cases h : wordsC c t with
      | nil => rw [h] at ih; simp at ih
      | cons w r => simp
end Go.Proofs.YtkcpcjhjemedpaaGreatDoor

namespace Go.Proofs.YtkcpcjhjemedpaaGreatDoor
open Go.Sy
set_option maxRecDepth 100000
set_option linter.all false
def stA (b : List UInt8) : AV := .d (.st b)
def gsA (c : UInt8) (n : Nat) : List (List UInt8) × List UInt8 → S | (x, s) => ⟨[(0, .d (.st s)), (1, .d (.st [c])), (2, .d (.it .i64 0)), (3, .d (.it .i64 n)), (9, .ms 1 1 0 (n + 1) (n + 1)), (10, .d (.it .i64 x.length))], [(1, .cells (n + 1) (x.map stA ++ List.replicate (n + 1 - x.length) (stA [])))], 2⟩
theorem zeros_st (n : Nat) : (zeros n [D.st []]).map toA = List.replicate n (stA []) := by
  induction n with
  | zero => rfl
  | succ n ih => simp only [zeros, List.map_append, ih, List.replicate_succ]; rfl
theorem idx_lt (c : UInt8) (r : List UInt8) : Lib.indexByte r c < r.length := by
  by_cases h : 0 ≤ Lib.indexByte r c
  · exact (wordsC_some c r h).1
  · omega
theorem none_of {c : UInt8} {r : List UInt8} (h : r.count c = 0) : Lib.indexByte r c = -1 := by
  by_cases h0 : 0 ≤ Lib.indexByte r c
  · have := (wordsC_some c r h0).2.2
    omega
  · have := Lib.indexByte_ge r c
    omega
theorem take_all {α : Type} {l : List α} {n : Nat} (h : l.length = n) : l.take n = l := by subst h; exact List.take_length
theorem upd_row (x : List AV) (m : Nat) (z v : AV) : (x ++ List.replicate m z).take x.length ++ [v] ++ (x ++ List.replicate m z).drop (x.length + 1) = x ++ v :: List.replicate (m - 1) z := by
  rw [List.take_left, List.drop_append, List.drop_eq_nil_of_le (by omega), List.nil_append, List.append_assoc]
  congr 1
  simp [show x.length + 1 - x.length = 1 by omega]
theorem flat_st (x : List (List UInt8)) : ((x.map stL).flatten).map AV.d = x.map stA := by
  induction x with
  | nil => rfl
  | cons a t ih => simp only [List.map_cons, List.flatten_cons, List.map_append, ih]; rfl
theorem all_stA (l : List (List UInt8)) (m : Nat) : (l.map stA).all (AV.lt1 m) = true := by
  rw [List.all_eq_true]
  intro x hx
  obtain ⟨b, _, rfl⟩ := List.mem_map.1 hx
  rfl
theorem fin_of (x : List (List UInt8)) (r : List UInt8) (n : Nat) (hl : x.length = n) : (List.drop 0 ((x.map stA ++ List.replicate (n + 1 - x.length) (stA [])).take x.length ++ [AV.d (.st r)] ++ (x.map stA ++ List.replicate (n + 1 - x.length) (stA [])).drop (x.length + 1))).take (((x.length : Int) + 1).toNat * 1) = List.map AV.d (List.map stL (x ++ [r])).flatten := by
  have := upd_row (x.map stA) (n + 1 - x.length) (stA []) (.d (.st r))
  rw [List.length_map] at this
  rw [List.drop_zero, this, flat_st, show n + 1 - x.length - 1 = 0 by omega]
  rw [List.take_of_length_le (by rw [List.length_append, List.length_map]; simp), List.map_append]; rfl
theorem genSplit_ok (c : UInt8) (s : List UInt8) (hs : s.length ≤ 1000000) : FnC Tryz.prog 58 [.d (.st s), .d (.st [c]), .d (.it .i64 0), .d (.it .i64 (-1))] (.d (.fs 1 ((wordsC c s).map stL))) := by
  refine FnC.intro ti_ok Tryz.func58 rfl Tryz.ntmps58 Tryz.call58 rfl (Nat.le_of_ble_eq_true rfl) rfl ?_
  have hcnt : s.count c ≤ s.length := List.count_le_length
  have hc0 : Lib.countByte s c = s.count c := rfl
  (repeat' ((conv => whnf); first | with_reducible refine Spl.tt ?_ | with_reducible refine Spl.ff ?_ | refine CallE.con ⟨_, count_ok s c, ?_⟩ | with_reducible refine LetI.eq ((s.count c + 1 : Nat) : Int) (by split <;> omega) ?_ | with_reducible refine LetN.eq (s.count c + 1) (by omega) ?_ | with_reducible refine draw_auto ti_ok mixed (by decide +kernel) ?_ | with_reducible refine LetI.i64 (by first | omega | (with_unfolding_all exact Nat.le_of_ble_eq_true rfl) | (simp only [List.length_append, List.length_cons, List.length_nil, List.length_map, chunk_length]; omega)) ?_ | with_reducible refine LetI.u64 (by omega) ?_ | with_reducible refine LetI.u8 (by omega) ?_ | with_reducible refine LetI.i64q (by omega) ?_ | with_reducible refine LetI.u64q (by omega) ?_ | with_reducible refine LetI.rem (by omega) ?_ | with_reducible refine LetN.mk ?_ | with_reducible refine at_hm (by assumption) ?_ | with_reducible refine at_hb (by assumption) ?_ | with_reducible refine at_lit (by simp only [List.length_map, List.length_cons, List.length_nil]; omega) (by with_unfolding_all exact rfl) ?_ | with_reducible refine at_natm8 (by omega) (fun x hx hu => ?_) | with_reducible refine at_nat8 (by omega) (fun x hx hu => ?_) | with_reducible refine at_bi8 (by omega) (fun x hx hu => ?_) | with_reducible refine at_natm (by omega) (fun x hx => ?_) | with_reducible refine at_intm (by omega) (fun x hx => ?_) | with_reducible refine at_nat (by omega) (fun x hx => ?_) | with_reducible refine at_bi (by omega) (fun x hx => ?_) | with_reducible refine And.intro (by first | omega | (dsimp only; omega) | (with_unfolding_all exact Nat.le_of_ble_eq_true rfl) | (simp only [List.length_append, List.length_cons, List.length_nil, List.length_map, chunk_length]; omega)) ?_ | with_reducible refine cond_tt (by first | exact rfl | exact (ble_tt (by first | omega | (dsimp only; omega))) | exact (blt_tt (by first | omega | (dsimp only; omega))) | exact band_tt rfl rfl | exact band_tt rfl (ble_tt (by first | omega | (dsimp only; omega))) | exact band_tt rfl (blt_tt (by first | omega | (dsimp only; omega))) | exact band_tt (ble_tt (by first | omega | (dsimp only; omega))) rfl | exact band_tt (ble_tt (by first | omega | (dsimp only; omega))) (ble_tt (by first | omega | (dsimp only; omega))) | exact band_tt (ble_tt (by first | omega | (dsimp only; omega))) (blt_tt (by first | omega | (dsimp only; omega))) | exact band_tt (blt_tt (by first | omega | (dsimp only; omega))) rfl | exact band_tt (blt_tt (by first | omega | (dsimp only; omega))) (ble_tt (by first | omega | (dsimp only; omega))) | exact band_tt (blt_tt (by first | omega | (dsimp only; omega))) (blt_tt (by first | omega | (dsimp only; omega)))) ?_ | with_reducible refine Both.mk ?_ ?_ | with_reducible refine NilS.ts ?_ | with_reducible refine LetE.now ?_ | with_reducible refine at_some (by with_unfolding_all exact rfl) ?_ | with_reducible refine Spl.yes (by decide +kernel) ?_ | with_reducible refine Spl.no (by decide +kernel) ?_ | with_reducible refine Spl.yes (by (first | with_reducible assumption | with_unfolding_all exact rfl | exact dtt (by omega) | exact ett (by omega) | exact ntt (by omega) | exact seq_tt (by with_unfolding_all assumption) | exact sne_tt (by with_unfolding_all assumption))) ?_ | with_reducible refine Spl.no (by (first | with_reducible assumption | with_unfolding_all exact rfl | exact dff (by omega) | exact eff (by omega) | exact nff (by omega) | exact seq_ff (by with_unfolding_all assumption) | exact sne_ff (by with_unfolding_all assumption))) ?_ | with_reducible refine Spl.pd (fun h => ?_) (fun h => ?_) | with_reducible refine Spl.peq (fun h => ?_) (fun h => ?_) | with_reducible refine Spl.pne (fun h => ?_) (fun h => ?_) | with_reducible refine Spl.seq (fun h => ?_) (fun h => ?_) | with_reducible refine Spl.sne (fun h => ?_) (fun h => ?_) | with_reducible refine Spl.nt ?_ | with_reducible refine Spl.mk (fun h => ?_) (fun h => ?_)))
  have hz := zeros_st (s.count c + 1)
  refine loop_rule ti_ok (fun x : List (List UInt8) × List UInt8 => wordsC c s = x.1 ++ wordsC c x.2 ∧ x.1.length + x.2.count c = s.count c ∧ x.2.length ≤ s.length) (gsA c (s.count c)) (fun x => s.count c - x.1.length) ([], s) ⟨rfl, by simp, Nat.le_refl _⟩ ⟨⟨rfl, rfl, rfl, it_eq ?_, rfl, rfl, trivial⟩, ⟨cells_eq (Nat.mul_one _) hz, trivial⟩, ?_⟩ ?_
  · omega
  · simp only [S.ok, gsA, List.all_cons, List.all_nil, List.map_nil, List.nil_append, Ob.lt]
    rw [List.all_eq_true.2 (fun x hx => by rw [List.eq_of_mem_replicate hx]; rfl)]
    rfl
  intro ⟨x, r⟩ ⟨i1, i2, i3⟩
  simp only at i1 i2 i3
  have hlt := idx_lt c r
  (repeat' ((conv => whnf); first | with_reducible refine Spl.tt ?_ | with_reducible refine Spl.ff ?_ | refine CallE.con ⟨_, index_ok r c, ?_⟩ | with_reducible refine LetN.eq x.length (by dsimp only; omega) ?_ | with_reducible refine draw_auto ti_ok mixed (by decide +kernel) ?_ | with_reducible refine LetI.i64 (by first | omega | (with_unfolding_all exact Nat.le_of_ble_eq_true rfl) | (simp only [List.length_append, List.length_cons, List.length_nil, List.length_map, chunk_length]; omega)) ?_ | with_reducible refine LetI.u64 (by omega) ?_ | with_reducible refine LetI.u8 (by omega) ?_ | with_reducible refine LetI.i64q (by omega) ?_ | with_reducible refine LetI.u64q (by omega) ?_ | with_reducible refine LetI.rem (by omega) ?_ | with_reducible refine LetN.mk ?_ | with_reducible refine at_hm (by assumption) ?_ | with_reducible refine at_hb (by assumption) ?_ | with_reducible refine at_lit (by simp only [List.length_map, List.length_cons, List.length_nil]; omega) (by with_unfolding_all exact rfl) ?_ | with_reducible refine at_natm8 (by omega) (fun x hx hu => ?_) | with_reducible refine at_nat8 (by omega) (fun x hx hu => ?_) | with_reducible refine at_bi8 (by omega) (fun x hx hu => ?_) | with_reducible refine at_natm (by omega) (fun x hx => ?_) | with_reducible refine at_intm (by omega) (fun x hx => ?_) | with_reducible refine at_nat (by omega) (fun x hx => ?_) | with_reducible refine at_bi (by omega) (fun x hx => ?_) | with_reducible refine And.intro (by first | omega | (dsimp only; omega) | (with_unfolding_all exact Nat.le_of_ble_eq_true rfl) | (simp only [List.length_append, List.length_cons, List.length_nil, List.length_map, chunk_length]; omega)) ?_ | with_reducible refine cond_tt (by first | exact rfl | exact (ble_tt (by first | omega | (dsimp only; omega))) | exact (blt_tt (by first | omega | (dsimp only; omega))) | exact band_tt rfl rfl | exact band_tt rfl (ble_tt (by first | omega | (dsimp only; omega))) | exact band_tt rfl (blt_tt (by first | omega | (dsimp only; omega))) | exact band_tt (ble_tt (by first | omega | (dsimp only; omega))) rfl | exact band_tt (ble_tt (by first | omega | (dsimp only; omega))) (ble_tt (by first | omega | (dsimp only; omega))) | exact band_tt (ble_tt (by first | omega | (dsimp only; omega))) (blt_tt (by first | omega | (dsimp only; omega))) | exact band_tt (blt_tt (by first | omega | (dsimp only; omega))) rfl | exact band_tt (blt_tt (by first | omega | (dsimp only; omega))) (ble_tt (by first | omega | (dsimp only; omega))) | exact band_tt (blt_tt (by first | omega | (dsimp only; omega))) (blt_tt (by first | omega | (dsimp only; omega)))) ?_ | with_reducible refine Both.mk ?_ ?_ | with_reducible refine NilS.ts ?_ | with_reducible refine LetE.now ?_ | with_reducible refine at_some (by with_unfolding_all exact rfl) ?_ | with_reducible refine Spl.yes (by decide +kernel) ?_ | with_reducible refine Spl.no (by decide +kernel) ?_ | with_reducible refine Spl.yes (by (first | with_reducible assumption | with_unfolding_all exact rfl | exact dtt (by omega) | exact ett (by omega) | exact ntt (by omega) | exact seq_tt (by with_unfolding_all assumption) | exact sne_tt (by with_unfolding_all assumption))) ?_ | with_reducible refine Spl.no (by (first | with_reducible assumption | with_unfolding_all exact rfl | exact dff (by omega) | exact eff (by omega) | exact nff (by omega) | exact seq_ff (by with_unfolding_all assumption) | exact sne_ff (by with_unfolding_all assumption))) ?_ | with_reducible refine Spl.pd (fun h => ?_) (fun h => ?_) | with_reducible refine Spl.peq (fun h => ?_) (fun h => ?_) | with_reducible refine Spl.pne (fun h => ?_) (fun h => ?_) | with_reducible refine Spl.seq (fun h => ?_) (fun h => ?_) | with_reducible refine Spl.sne (fun h => ?_) (fun h => ?_) | with_reducible refine Spl.nt ?_ | with_reducible refine Spl.mk (fun h => ?_) (fun h => ?_)))
  · have hn : Lib.indexByte r c = -1 := by have := Lib.indexByte_ge r c; omega
    have h0 := countC_none c r hn
    have hl : x.length = s.count c := by omega
    refine ⟨(wordsC c s).map stL, ⟨?_, ?_, ?_, ?_⟩, rfl⟩
    · dsimp only; omega
    · simp only [List.length_map, wordsC_len c]; omega
    · intro y hy
      obtain ⟨z, _, rfl⟩ := List.mem_map.1 hy
      rfl
    · rw [i1, wordsC_none c r hn]
      exact fin_of x r _ hl
  · have h0 : 0 ≤ Lib.indexByte r c := by omega
    obtain ⟨k1, k2, k3⟩ := wordsC_some c r h0
    have e1 : (Lib.indexByte r c + ([c] : List UInt8).length).toNat = (Lib.indexByte r c).toNat + 1 := by simp only [List.length_cons, List.length_nil]; omega
    refine again ((x ++ [r.take (Lib.indexByte r c).toNat], r.drop ((Lib.indexByte r c).toNat + 1)) : List (List UInt8) × List UInt8) ⟨?_, ?_, ?_⟩ (by show _ - (x ++ _).length < _ - x.length; rw [List.length_append, List.length_singleton]; omega) (And.intro (st_eq ?_) (And.intro rfl (And.intro rfl (And.intro rfl (And.intro rfl (And.intro (it_eq ?_) trivial)))))) (And.intro (cells_eq rfl ?_) trivial) ?_
    · rw [i1, k2, List.append_assoc]; rfl
    · show (x ++ _).length + (List.drop _ r).count c = _
      rw [List.length_append, List.length_singleton]; omega
    · show (List.drop _ r).length ≤ _
      rw [List.length_drop]; omega
    · rw [e1]
    · rw [List.length_append, List.length_singleton]; rfl
    · have := upd_row (x.map stA) (s.count c + 1 - x.length) (stA []) (stA (r.take (Lib.indexByte r c).toNat))
      rw [List.length_map] at this
      rw [List.map_append, List.length_append, List.length_singleton]
      refine Eq.trans ?_ (this.trans ?_)
      · simp only [Int.add_zero]; rfl
      · rw [show s.count c + 1 - x.length - 1 = s.count c + 1 - (x.length + 1) by omega, List.append_assoc]; rfl
    · simp only [S.ok, gsA, List.all_cons, List.all_nil, Ob.lt, List.all_append, all_stA]
      rw [List.all_eq_true.2 (fun x hx => by rw [List.eq_of_mem_replicate hx]; rfl)]
      rfl
  · have hn : Lib.indexByte r c = -1 := none_of (by omega)
    have h0 := countC_none c r hn
    have hl : x.length = s.count c := by omega
    refine ⟨(wordsC c s).map stL, ⟨?_, ?_, ?_, ?_⟩, rfl⟩
    · dsimp only; omega
    · simp only [List.length_map, wordsC_len c]; omega
    · intro y hy
      obtain ⟨z, _, rfl⟩ := List.mem_map.1 hy
      rfl
    · rw [i1, wordsC_none c r hn]
      exact fin_of x r _ hl
theorem split_ok (c : UInt8) (s : List UInt8) (hs : s.length ≤ 1000000) : FnC Tryz.prog 42 [.d (.st s), .d (.st [c])] (.d (.fs 1 ((wordsC c s).map stL))) := by
  refine FnC.intro ti_ok Tryz.func42 rfl Tryz.ntmps42 Tryz.call42 rfl (Nat.le_of_ble_eq_true rfl) rfl ?_
  (repeat' ((conv => whnf); first | with_reducible refine Spl.tt ?_ | with_reducible refine Spl.ff ?_ | refine CallE.con ⟨_, genSplit_ok c s hs, ?_⟩ | with_reducible refine draw_auto ti_ok mixed (by decide +kernel) ?_ | with_reducible refine LetI.i64 (by first | omega | (with_unfolding_all exact Nat.le_of_ble_eq_true rfl) | (simp only [List.length_append, List.length_cons, List.length_nil, List.length_map, chunk_length]; omega)) ?_ | with_reducible refine LetI.u64 (by omega) ?_ | with_reducible refine LetI.u8 (by omega) ?_ | with_reducible refine LetI.i64q (by omega) ?_ | with_reducible refine LetI.u64q (by omega) ?_ | with_reducible refine LetI.rem (by omega) ?_ | with_reducible refine LetN.mk ?_ | with_reducible refine at_hm (by assumption) ?_ | with_reducible refine at_hb (by assumption) ?_ | with_reducible refine at_lit (by simp only [List.length_map, List.length_cons, List.length_nil]; omega) (by with_unfolding_all exact rfl) ?_ | with_reducible refine at_natm8 (by omega) (fun x hx hu => ?_) | with_reducible refine at_nat8 (by omega) (fun x hx hu => ?_) | with_reducible refine at_bi8 (by omega) (fun x hx hu => ?_) | with_reducible refine at_natm (by omega) (fun x hx => ?_) | with_reducible refine at_intm (by omega) (fun x hx => ?_) | with_reducible refine at_nat (by omega) (fun x hx => ?_) | with_reducible refine at_bi (by omega) (fun x hx => ?_) | with_reducible refine And.intro (by first | omega | (dsimp only; omega) | (with_unfolding_all exact Nat.le_of_ble_eq_true rfl) | (simp only [List.length_append, List.length_cons, List.length_nil, List.length_map, chunk_length]; omega)) ?_ | with_reducible refine cond_tt (by first | exact rfl | exact (ble_tt (by first | omega | (dsimp only; omega))) | exact (blt_tt (by first | omega | (dsimp only; omega))) | exact band_tt rfl rfl | exact band_tt rfl (ble_tt (by first | omega | (dsimp only; omega))) | exact band_tt rfl (blt_tt (by first | omega | (dsimp only; omega))) | exact band_tt (ble_tt (by first | omega | (dsimp only; omega))) rfl | exact band_tt (ble_tt (by first | omega | (dsimp only; omega))) (ble_tt (by first | omega | (dsimp only; omega))) | exact band_tt (ble_tt (by first | omega | (dsimp only; omega))) (blt_tt (by first | omega | (dsimp only; omega))) | exact band_tt (blt_tt (by first | omega | (dsimp only; omega))) rfl | exact band_tt (blt_tt (by first | omega | (dsimp only; omega))) (ble_tt (by first | omega | (dsimp only; omega))) | exact band_tt (blt_tt (by first | omega | (dsimp only; omega))) (blt_tt (by first | omega | (dsimp only; omega)))) ?_ | with_reducible refine Both.mk ?_ ?_ | with_reducible refine NilS.ts ?_ | with_reducible refine LetE.now ?_ | with_reducible refine at_some (by with_unfolding_all exact rfl) ?_ | with_reducible refine Spl.yes (by decide +kernel) ?_ | with_reducible refine Spl.no (by decide +kernel) ?_ | with_reducible refine Spl.yes (by (first | with_reducible assumption | with_unfolding_all exact rfl | exact dtt (by omega) | exact ett (by omega) | exact ntt (by omega) | exact seq_tt (by with_unfolding_all assumption) | exact sne_tt (by with_unfolding_all assumption))) ?_ | with_reducible refine Spl.no (by (first | with_reducible assumption | with_unfolding_all exact rfl | exact dff (by omega) | exact eff (by omega) | exact nff (by omega) | exact seq_ff (by with_unfolding_all assumption) | exact sne_ff (by with_unfolding_all assumption))) ?_ | with_reducible refine Spl.pd (fun h => ?_) (fun h => ?_) | with_reducible refine Spl.peq (fun h => ?_) (fun h => ?_) | with_reducible refine Spl.pne (fun h => ?_) (fun h => ?_) | with_reducible refine Spl.seq (fun h => ?_) (fun h => ?_) | with_reducible refine Spl.sne (fun h => ?_) (fun h => ?_) | with_reducible refine Spl.nt ?_ | with_reducible refine Spl.mk (fun h => ?_) (fun h => ?_)))
  rfl
end Go.Proofs.YtkcpcjhjemedpaaGreatDoor
