/- Contracts of the functions that the law reaches, and the law. Conditions: none. -/
import Derived.Test.YtkcpcjhjemedpaaDoorProg
import Derived.Test.YtkcpcjhjemedpaaDoorSE
import Derived.KernelRfl
import Derived.Laws.Externs
import Derived.Shelf.Strings.Builder1
import Derived.Shelf.Strings.Builder2
import Derived.Shelf.Strings.OnBuilder
import Derived.Shelf.Strings.Trim
import Derived.Shelf.Small.Utf8
import Derived.Shelf.Small.Strs
import Derived.Shelf.Small.Wraps
import Derived.Shelf.Strings.BuilderF
import Derived.Shelf.Strings.BuilderK
import Derived.Shelf.Utf8.RuneCount
import Derived.Shelf.Strings.Builder2Cap
import Derived.Shelf.Strings.Search1
import Derived.Shelf.Strings.Search2
import Derived.Shelf.Strings.Search3
import Derived.Shelf.Strings.Count
import Derived.Shelf.LaysM
import Derived.Shelf.Strings.Shaped
import Derived.Shelf.Strings.Prefix
import Derived.Shelf.Strings.Split
import Derived.Shelf.Strings.SplitShaped
import Derived.Shelf.Unicode.Decode
import Derived.Shelf.Strings.Runes
import Derived.Shelf.Strings.RuneCount
import Derived.Shelf.Strings.AsciiSet
import Derived.Shelf.Strings.Explode
import Derived.Shelf.Unicode.DecodeSlow
import Derived.Shelf.Unicode.DecodeAny
import Derived.Shelf.Unicode.DecodeLast
import Derived.Shelf.Strings.BuilderCap
set_option linter.all false
/- The types of the seat, as the Sym layer reads them. Conditions: none. -/
namespace Go.Proofs.YtkcpcjhjemedpaaDoor
open Go.Sy
set_option maxRecDepth 100000
def tyL : List (Nat × Ty) := [
  (0, { kd := .other, size := 1, bytes := 0, zero := [], cmp := .none, pl := [] }),
  (1, { kd := .func, size := 1, bytes := 8, zero := [.ot .nilFunc], cmp := .none, pl := [] }),
  (2, { kd := .int .i64, size := 1, bytes := 8, zero := [.it .i64 0], cmp := .some [.it .i64 0], pl := [] }),
  (3, { kd := .int .i64, size := 1, bytes := 8, zero := [.it .i64 0], cmp := .some [.it .i64 0], pl := [] }),
  (4, { kd := .bool, size := 1, bytes := 1, zero := [.bl Bool.false], cmp := .some [.bl Bool.false], pl := [] }),
  (5, { kd := .int .u8, size := 1, bytes := 1, zero := [.it .u8 0], cmp := .some [.it .u8 0], pl := [] }),
  (6, { kd := .int .u8, size := 1, bytes := 1, zero := [.it .u8 0], cmp := .some [.it .u8 0], pl := [] }),
  (7, { kd := .struct [(0, 2), (1, 3), (2, 4), (3, 6)], size := 4, bytes := 24, zero := [.it .i64 0, .it .i64 0, .bl Bool.false, .it .u8 0], cmp := .some [.it .i64 0, .it .i64 0, .bl Bool.false, .it .u8 0], pl := [(0, 1), (1, 1), (2, 1), (3, 1)] }),
  (8, { kd := .struct [(0, 2), (1, 3), (2, 4), (3, 6)], size := 4, bytes := 24, zero := [.it .i64 0, .it .i64 0, .bl Bool.false, .it .u8 0], cmp := .some [.it .i64 0, .it .i64 0, .bl Bool.false, .it .u8 0], pl := [(0, 1), (1, 1), (2, 1), (3, 1)] }),
  (9, { kd := .string, size := 1, bytes := 16, zero := [.st []], cmp := .some [.st []], pl := [] }),
  (10, { kd := .string, size := 1, bytes := 16, zero := [.st []], cmp := .some [.st []], pl := [] }),
  (11, { kd := .string, size := 1, bytes := 16, zero := [.st []], cmp := .some [.st []], pl := [] }),
  (12, { kd := .int .u64, size := 1, bytes := 8, zero := [.it .u64 0], cmp := .some [.it .u64 0], pl := [] }),
  (13, { kd := .struct [(0, 9), (1, 12)], size := 2, bytes := 24, zero := [.st [], .it .u64 0], cmp := .none, pl := [(0, 1), (1, 1)] }),
  (14, { kd := .struct [(0, 9), (1, 12)], size := 2, bytes := 24, zero := [.st [], .it .u64 0], cmp := .none, pl := [(0, 1), (1, 1)] }),
  (15, { kd := .ptr 119, size := 1, bytes := 8, zero := [.ot (.pointer .none)], cmp := .none, pl := [] }),
  (16, { kd := .ptr 122, size := 1, bytes := 8, zero := [.ot (.pointer .none)], cmp := .none, pl := [] }),
  (17, { kd := .ptr 130, size := 1, bytes := 8, zero := [.ot (.pointer .none)], cmp := .none, pl := [] }),
  (18, { kd := .struct [(0, 17)], size := 1, bytes := 8, zero := [.ot (.pointer .none)], cmp := .none, pl := [(0, 1)] }),
  (19, { kd := .struct [(0, 17)], size := 1, bytes := 8, zero := [.ot (.pointer .none)], cmp := .none, pl := [(0, 1)] }),
  (20, { kd := .other, size := 1, bytes := 16, zero := [.ot .nilIface], cmp := .none, pl := [] }),
  (21, { kd := .int .i32, size := 1, bytes := 4, zero := [.it .i32 0], cmp := .some [.it .i32 0], pl := [] }),
  (22, { kd := .slice 33, size := 1, bytes := 24, zero := [.fs 3 []], cmp := .none, pl := [] }),
  (23, { kd := .func, size := 1, bytes := 8, zero := [.ot .nilFunc], cmp := .none, pl := [] }),
  (24, { kd := .func, size := 1, bytes := 8, zero := [.ot .nilFunc], cmp := .none, pl := [] }),
  (25, { kd := .slice 37, size := 1, bytes := 24, zero := [.fs 7 []], cmp := .none, pl := [] }),
  (26, { kd := .other, size := 1, bytes := 0, zero := [], cmp := .none, pl := [] }),
  (27, { kd := .func, size := 1, bytes := 8, zero := [.ot .nilFunc], cmp := .none, pl := [] }),
  (28, { kd := .other, size := 1, bytes := 0, zero := [], cmp := .none, pl := [] }),
  (29, { kd := .func, size := 1, bytes := 8, zero := [.ot .nilFunc], cmp := .none, pl := [] }),
  (30, { kd := .func, size := 1, bytes := 8, zero := [.ot .nilFunc], cmp := .none, pl := [] }),
  (31, { kd := .func, size := 1, bytes := 8, zero := [.ot .nilFunc], cmp := .none, pl := [] }),
  (32, { kd := .struct [(0, 9), (1, 4), (2, 9)], size := 3, bytes := 40, zero := [.st [], .bl Bool.false, .st []], cmp := .some [.st [], .bl Bool.false, .st []], pl := [(0, 1), (1, 1), (2, 1)] }),
  (33, { kd := .struct [(0, 9), (1, 4), (2, 9)], size := 3, bytes := 40, zero := [.st [], .bl Bool.false, .st []], cmp := .some [.st [], .bl Bool.false, .st []], pl := [(0, 1), (1, 1), (2, 1)] }),
  (34, { kd := .func, size := 1, bytes := 8, zero := [.ot .nilFunc], cmp := .none, pl := [] }),
  (35, { kd := .func, size := 1, bytes := 8, zero := [.ot .nilFunc], cmp := .none, pl := [] }),
  (36, { kd := .struct [(0, 3), (1, 33), (4, 33)], size := 7, bytes := 88, zero := [.it .i64 0, .st [], .bl Bool.false, .st [], .st [], .bl Bool.false, .st []], cmp := .some [.it .i64 0, .st [], .bl Bool.false, .st [], .st [], .bl Bool.false, .st []], pl := [(0, 1), (1, 3), (4, 3)] }),
  (37, { kd := .struct [(0, 3), (1, 33), (4, 33)], size := 7, bytes := 88, zero := [.it .i64 0, .st [], .bl Bool.false, .st [], .st [], .bl Bool.false, .st []], cmp := .some [.it .i64 0, .st [], .bl Bool.false, .st [], .st [], .bl Bool.false, .st []], pl := [(0, 1), (1, 3), (4, 3)] }),
  (38, { kd := .func, size := 1, bytes := 8, zero := [.ot .nilFunc], cmp := .none, pl := [] }),
  (39, { kd := .slice 33, size := 1, bytes := 24, zero := [.fs 3 []], cmp := .none, pl := [] }),
  (40, { kd := .func, size := 1, bytes := 8, zero := [.ot .nilFunc], cmp := .none, pl := [] }),
  (41, { kd := .func, size := 1, bytes := 8, zero := [.ot .nilFunc], cmp := .none, pl := [] }),
  (42, { kd := .func, size := 1, bytes := 8, zero := [.ot .nilFunc], cmp := .none, pl := [] }),
  (43, { kd := .func, size := 1, bytes := 8, zero := [.ot .nilFunc], cmp := .none, pl := [] }),
  (44, { kd := .func, size := 1, bytes := 8, zero := [.ot .nilFunc], cmp := .none, pl := [] }),
  (45, { kd := .func, size := 1, bytes := 8, zero := [.ot .nilFunc], cmp := .none, pl := [] }),
  (46, { kd := .ptr 49, size := 1, bytes := 8, zero := [.ot (.pointer .none)], cmp := .none, pl := [] }),
  (47, { kd := .slice 5, size := 1, bytes := 24, zero := [.fs 1 []], cmp := .none, pl := [] }),
  (48, { kd := .struct [(0, 46), (1, 47)], size := 2, bytes := 32, zero := [.ot (.pointer .none), .fs 1 []], cmp := .none, pl := [(0, 1), (1, 1)] }),
  (49, { kd := .struct [(0, 46), (1, 47)], size := 2, bytes := 32, zero := [.ot (.pointer .none), .fs 1 []], cmp := .none, pl := [(0, 1), (1, 1)] }),
  (50, { kd := .slice 9, size := 1, bytes := 24, zero := [.fs 1 []], cmp := .none, pl := [] }),
  (51, { kd := .other, size := 1, bytes := 16, zero := [.ot .nilIface], cmp := .none, pl := [] }),
  (52, { kd := .other, size := 1, bytes := 16, zero := [.ot .nilIface], cmp := .none, pl := [] }),
  (53, { kd := .other, size := 1, bytes := 0, zero := [], cmp := .none, pl := [] }),
  (54, { kd := .func, size := 1, bytes := 8, zero := [.ot .nilFunc], cmp := .none, pl := [] }),
  (55, { kd := .func, size := 1, bytes := 8, zero := [.ot .nilFunc], cmp := .none, pl := [] }),
  (56, { kd := .func, size := 1, bytes := 8, zero := [.ot .nilFunc], cmp := .none, pl := [] }),
  (57, { kd := .func, size := 1, bytes := 8, zero := [.ot .nilFunc], cmp := .none, pl := [] }),
  (58, { kd := .int .i64, size := 1, bytes := 8, zero := [.it .i64 0], cmp := .some [.it .i64 0], pl := [] }),
  (59, { kd := .other, size := 1, bytes := 0, zero := [], cmp := .none, pl := [] }),
  (60, { kd := .func, size := 1, bytes := 8, zero := [.ot .nilFunc], cmp := .none, pl := [] }),
  (61, { kd := .func, size := 1, bytes := 8, zero := [.ot .nilFunc], cmp := .none, pl := [] }),
  (62, { kd := .other, size := 1, bytes := 0, zero := [], cmp := .none, pl := [] }),
  (63, { kd := .func, size := 1, bytes := 8, zero := [.ot .nilFunc], cmp := .none, pl := [] }),
  (64, { kd := .ptr 39, size := 1, bytes := 8, zero := [.ot (.pointer .none)], cmp := .none, pl := [] }),
  (65, { kd := .func, size := 1, bytes := 8, zero := [.ot .nilFunc], cmp := .none, pl := [] }),
  (66, { kd := .func, size := 1, bytes := 8, zero := [.ot .nilFunc], cmp := .none, pl := [] }),
  (67, { kd := .ptr 5, size := 1, bytes := 8, zero := [.ot (.pointer .none)], cmp := .none, pl := [] }),
  (68, { kd := .func, size := 1, bytes := 8, zero := [.ot .nilFunc], cmp := .none, pl := [] }),
  (69, { kd := .func, size := 1, bytes := 8, zero := [.ot .nilFunc], cmp := .none, pl := [] }),
  (70, { kd := .func, size := 1, bytes := 8, zero := [.ot .nilFunc], cmp := .none, pl := [] }),
  (71, { kd := .func, size := 1, bytes := 8, zero := [.ot .nilFunc], cmp := .none, pl := [] }),
  (72, { kd := .func, size := 1, bytes := 8, zero := [.ot .nilFunc], cmp := .none, pl := [] }),
  (73, { kd := .func, size := 1, bytes := 8, zero := [.ot .nilFunc], cmp := .none, pl := [] }),
  (74, { kd := .other, size := 1, bytes := 0, zero := [], cmp := .none, pl := [] }),
  (75, { kd := .func, size := 1, bytes := 8, zero := [.ot .nilFunc], cmp := .none, pl := [] }),
  (76, { kd := .func, size := 1, bytes := 8, zero := [.ot .nilFunc], cmp := .none, pl := [] }),
  (77, { kd := .func, size := 1, bytes := 8, zero := [.ot .nilFunc], cmp := .none, pl := [] }),
  (78, { kd := .usafe, size := 1, bytes := 8, zero := [.ot (.pointer .none)], cmp := .none, pl := [] }),
  (79, { kd := .func, size := 1, bytes := 8, zero := [.ot .nilFunc], cmp := .none, pl := [] }),
  (80, { kd := .func, size := 1, bytes := 8, zero := [.ot .nilFunc], cmp := .none, pl := [] }),
  (81, { kd := .func, size := 1, bytes := 8, zero := [.ot .nilFunc], cmp := .none, pl := [] }),
  (82, { kd := .func, size := 1, bytes := 8, zero := [.ot .nilFunc], cmp := .none, pl := [] }),
  (83, { kd := .other, size := 1, bytes := 0, zero := [], cmp := .none, pl := [] }),
  (84, { kd := .func, size := 1, bytes := 8, zero := [.ot .nilFunc], cmp := .none, pl := [] }),
  (85, { kd := .func, size := 1, bytes := 8, zero := [.ot .nilFunc], cmp := .none, pl := [] }),
  (86, { kd := .func, size := 1, bytes := 8, zero := [.ot .nilFunc], cmp := .none, pl := [] }),
  (87, { kd := .int .u64, size := 1, bytes := 8, zero := [.it .u64 0], cmp := .some [.it .u64 0], pl := [] }),
  (88, { kd := .func, size := 1, bytes := 8, zero := [.ot .nilFunc], cmp := .none, pl := [] }),
  (89, { kd := .func, size := 1, bytes := 8, zero := [.ot .nilFunc], cmp := .none, pl := [] }),
  (90, { kd := .func, size := 1, bytes := 8, zero := [.ot .nilFunc], cmp := .none, pl := [] }),
  (91, { kd := .func, size := 1, bytes := 8, zero := [.ot .nilFunc], cmp := .none, pl := [] }),
  (92, { kd := .func, size := 1, bytes := 8, zero := [.ot .nilFunc], cmp := .none, pl := [] }),
  (93, { kd := .func, size := 1, bytes := 8, zero := [.ot .nilFunc], cmp := .none, pl := [] }),
  (94, { kd := .func, size := 1, bytes := 8, zero := [.ot .nilFunc], cmp := .none, pl := [] }),
  (95, { kd := .arr 256 4, size := 256, bytes := 256, zero := [.bl Bool.false, .bl Bool.false, .bl Bool.false, .bl Bool.false, .bl Bool.false, .bl Bool.false, .bl Bool.false, .bl Bool.false, .bl Bool.false, .bl Bool.false, .bl Bool.false, .bl Bool.false, .bl Bool.false, .bl Bool.false, .bl Bool.false, .bl Bool.false, .bl Bool.false, .bl Bool.false, .bl Bool.false, .bl Bool.false, .bl Bool.false, .bl Bool.false, .bl Bool.false, .bl Bool.false, .bl Bool.false, .bl Bool.false, .bl Bool.false, .bl Bool.false, .bl Bool.false, .bl Bool.false, .bl Bool.false, .bl Bool.false, .bl Bool.false, .bl Bool.false, .bl Bool.false, .bl Bool.false, .bl Bool.false, .bl Bool.false, .bl Bool.false, .bl Bool.false, .bl Bool.false, .bl Bool.false, .bl Bool.false, .bl Bool.false, .bl Bool.false, .bl Bool.false, .bl Bool.false, .bl Bool.false, .bl Bool.false, .bl Bool.false, .bl Bool.false, .bl Bool.false, .bl Bool.false, .bl Bool.false, .bl Bool.false, .bl Bool.false, .bl Bool.false, .bl Bool.false, .bl Bool.false, .bl Bool.false, .bl Bool.false, .bl Bool.false, .bl Bool.false, .bl Bool.false, .bl Bool.false, .bl Bool.false, .bl Bool.false, .bl Bool.false, .bl Bool.false, .bl Bool.false, .bl Bool.false, .bl Bool.false, .bl Bool.false, .bl Bool.false, .bl Bool.false, .bl Bool.false, .bl Bool.false, .bl Bool.false, .bl Bool.false, .bl Bool.false, .bl Bool.false, .bl Bool.false, .bl Bool.false, .bl Bool.false, .bl Bool.false, .bl Bool.false, .bl Bool.false, .bl Bool.false, .bl Bool.false, .bl Bool.false, .bl Bool.false, .bl Bool.false, .bl Bool.false, .bl Bool.false, .bl Bool.false, .bl Bool.false, .bl Bool.false, .bl Bool.false, .bl Bool.false, .bl Bool.false, .bl Bool.false, .bl Bool.false, .bl Bool.false, .bl Bool.false, .bl Bool.false, .bl Bool.false, .bl Bool.false, .bl Bool.false, .bl Bool.false, .bl Bool.false, .bl Bool.false, .bl Bool.false, .bl Bool.false, .bl Bool.false, .bl Bool.false, .bl Bool.false, .bl Bool.false, .bl Bool.false, .bl Bool.false, .bl Bool.false, .bl Bool.false, .bl Bool.false, .bl Bool.false, .bl Bool.false, .bl Bool.false, .bl Bool.false, .bl Bool.false, .bl Bool.false, .bl Bool.false, .bl Bool.false, .bl Bool.false, .bl Bool.false, .bl Bool.false, .bl Bool.false, .bl Bool.false, .bl Bool.false, .bl Bool.false, .bl Bool.false, .bl Bool.false, .bl Bool.false, .bl Bool.false, .bl Bool.false, .bl Bool.false, .bl Bool.false, .bl Bool.false, .bl Bool.false, .bl Bool.false, .bl Bool.false, .bl Bool.false, .bl Bool.false, .bl Bool.false, .bl Bool.false, .bl Bool.false, .bl Bool.false, .bl Bool.false, .bl Bool.false, .bl Bool.false, .bl Bool.false, .bl Bool.false, .bl Bool.false, .bl Bool.false, .bl Bool.false, .bl Bool.false, .bl Bool.false, .bl Bool.false, .bl Bool.false, .bl Bool.false, .bl Bool.false, .bl Bool.false, .bl Bool.false, .bl Bool.false, .bl Bool.false, .bl Bool.false, .bl Bool.false, .bl Bool.false, .bl Bool.false, .bl Bool.false, .bl Bool.false, .bl Bool.false, .bl Bool.false, .bl Bool.false, .bl Bool.false, .bl Bool.false, .bl Bool.false, .bl Bool.false, .bl Bool.false, .bl Bool.false, .bl Bool.false, .bl Bool.false, .bl Bool.false, .bl Bool.false, .bl Bool.false, .bl Bool.false, .bl Bool.false, .bl Bool.false, .bl Bool.false, .bl Bool.false, .bl Bool.false, .bl Bool.false, .bl Bool.false, .bl Bool.false, .bl Bool.false, .bl Bool.false, .bl Bool.false, .bl Bool.false, .bl Bool.false, .bl Bool.false, .bl Bool.false, .bl Bool.false, .bl Bool.false, .bl Bool.false, .bl Bool.false, .bl Bool.false, .bl Bool.false, .bl Bool.false, .bl Bool.false, .bl Bool.false, .bl Bool.false, .bl Bool.false, .bl Bool.false, .bl Bool.false, .bl Bool.false, .bl Bool.false, .bl Bool.false, .bl Bool.false, .bl Bool.false, .bl Bool.false, .bl Bool.false, .bl Bool.false, .bl Bool.false, .bl Bool.false, .bl Bool.false, .bl Bool.false, .bl Bool.false, .bl Bool.false, .bl Bool.false, .bl Bool.false, .bl Bool.false, .bl Bool.false, .bl Bool.false, .bl Bool.false, .bl Bool.false, .bl Bool.false, .bl Bool.false, .bl Bool.false, .bl Bool.false, .bl Bool.false, .bl Bool.false, .bl Bool.false, .bl Bool.false, .bl Bool.false, .bl Bool.false, .bl Bool.false, .bl Bool.false, .bl Bool.false, .bl Bool.false], cmp := .some [.bl Bool.false, .bl Bool.false, .bl Bool.false, .bl Bool.false, .bl Bool.false, .bl Bool.false, .bl Bool.false, .bl Bool.false, .bl Bool.false, .bl Bool.false, .bl Bool.false, .bl Bool.false, .bl Bool.false, .bl Bool.false, .bl Bool.false, .bl Bool.false, .bl Bool.false, .bl Bool.false, .bl Bool.false, .bl Bool.false, .bl Bool.false, .bl Bool.false, .bl Bool.false, .bl Bool.false, .bl Bool.false, .bl Bool.false, .bl Bool.false, .bl Bool.false, .bl Bool.false, .bl Bool.false, .bl Bool.false, .bl Bool.false, .bl Bool.false, .bl Bool.false, .bl Bool.false, .bl Bool.false, .bl Bool.false, .bl Bool.false, .bl Bool.false, .bl Bool.false, .bl Bool.false, .bl Bool.false, .bl Bool.false, .bl Bool.false, .bl Bool.false, .bl Bool.false, .bl Bool.false, .bl Bool.false, .bl Bool.false, .bl Bool.false, .bl Bool.false, .bl Bool.false, .bl Bool.false, .bl Bool.false, .bl Bool.false, .bl Bool.false, .bl Bool.false, .bl Bool.false, .bl Bool.false, .bl Bool.false, .bl Bool.false, .bl Bool.false, .bl Bool.false, .bl Bool.false, .bl Bool.false, .bl Bool.false, .bl Bool.false, .bl Bool.false, .bl Bool.false, .bl Bool.false, .bl Bool.false, .bl Bool.false, .bl Bool.false, .bl Bool.false, .bl Bool.false, .bl Bool.false, .bl Bool.false, .bl Bool.false, .bl Bool.false, .bl Bool.false, .bl Bool.false, .bl Bool.false, .bl Bool.false, .bl Bool.false, .bl Bool.false, .bl Bool.false, .bl Bool.false, .bl Bool.false, .bl Bool.false, .bl Bool.false, .bl Bool.false, .bl Bool.false, .bl Bool.false, .bl Bool.false, .bl Bool.false, .bl Bool.false, .bl Bool.false, .bl Bool.false, .bl Bool.false, .bl Bool.false, .bl Bool.false, .bl Bool.false, .bl Bool.false, .bl Bool.false, .bl Bool.false, .bl Bool.false, .bl Bool.false, .bl Bool.false, .bl Bool.false, .bl Bool.false, .bl Bool.false, .bl Bool.false, .bl Bool.false, .bl Bool.false, .bl Bool.false, .bl Bool.false, .bl Bool.false, .bl Bool.false, .bl Bool.false, .bl Bool.false, .bl Bool.false, .bl Bool.false, .bl Bool.false, .bl Bool.false, .bl Bool.false, .bl Bool.false, .bl Bool.false, .bl Bool.false, .bl Bool.false, .bl Bool.false, .bl Bool.false, .bl Bool.false, .bl Bool.false, .bl Bool.false, .bl Bool.false, .bl Bool.false, .bl Bool.false, .bl Bool.false, .bl Bool.false, .bl Bool.false, .bl Bool.false, .bl Bool.false, .bl Bool.false, .bl Bool.false, .bl Bool.false, .bl Bool.false, .bl Bool.false, .bl Bool.false, .bl Bool.false, .bl Bool.false, .bl Bool.false, .bl Bool.false, .bl Bool.false, .bl Bool.false, .bl Bool.false, .bl Bool.false, .bl Bool.false, .bl Bool.false, .bl Bool.false, .bl Bool.false, .bl Bool.false, .bl Bool.false, .bl Bool.false, .bl Bool.false, .bl Bool.false, .bl Bool.false, .bl Bool.false, .bl Bool.false, .bl Bool.false, .bl Bool.false, .bl Bool.false, .bl Bool.false, .bl Bool.false, .bl Bool.false, .bl Bool.false, .bl Bool.false, .bl Bool.false, .bl Bool.false, .bl Bool.false, .bl Bool.false, .bl Bool.false, .bl Bool.false, .bl Bool.false, .bl Bool.false, .bl Bool.false, .bl Bool.false, .bl Bool.false, .bl Bool.false, .bl Bool.false, .bl Bool.false, .bl Bool.false, .bl Bool.false, .bl Bool.false, .bl Bool.false, .bl Bool.false, .bl Bool.false, .bl Bool.false, .bl Bool.false, .bl Bool.false, .bl Bool.false, .bl Bool.false, .bl Bool.false, .bl Bool.false, .bl Bool.false, .bl Bool.false, .bl Bool.false, .bl Bool.false, .bl Bool.false, .bl Bool.false, .bl Bool.false, .bl Bool.false, .bl Bool.false, .bl Bool.false, .bl Bool.false, .bl Bool.false, .bl Bool.false, .bl Bool.false, .bl Bool.false, .bl Bool.false, .bl Bool.false, .bl Bool.false, .bl Bool.false, .bl Bool.false, .bl Bool.false, .bl Bool.false, .bl Bool.false, .bl Bool.false, .bl Bool.false, .bl Bool.false, .bl Bool.false, .bl Bool.false, .bl Bool.false, .bl Bool.false, .bl Bool.false, .bl Bool.false, .bl Bool.false, .bl Bool.false, .bl Bool.false, .bl Bool.false, .bl Bool.false, .bl Bool.false, .bl Bool.false, .bl Bool.false, .bl Bool.false, .bl Bool.false, .bl Bool.false, .bl Bool.false, .bl Bool.false, .bl Bool.false, .bl Bool.false, .bl Bool.false, .bl Bool.false, .bl Bool.false, .bl Bool.false, .bl Bool.false, .bl Bool.false], pl := [] }),
  (96, { kd := .arr 256 4, size := 256, bytes := 256, zero := [.bl Bool.false, .bl Bool.false, .bl Bool.false, .bl Bool.false, .bl Bool.false, .bl Bool.false, .bl Bool.false, .bl Bool.false, .bl Bool.false, .bl Bool.false, .bl Bool.false, .bl Bool.false, .bl Bool.false, .bl Bool.false, .bl Bool.false, .bl Bool.false, .bl Bool.false, .bl Bool.false, .bl Bool.false, .bl Bool.false, .bl Bool.false, .bl Bool.false, .bl Bool.false, .bl Bool.false, .bl Bool.false, .bl Bool.false, .bl Bool.false, .bl Bool.false, .bl Bool.false, .bl Bool.false, .bl Bool.false, .bl Bool.false, .bl Bool.false, .bl Bool.false, .bl Bool.false, .bl Bool.false, .bl Bool.false, .bl Bool.false, .bl Bool.false, .bl Bool.false, .bl Bool.false, .bl Bool.false, .bl Bool.false, .bl Bool.false, .bl Bool.false, .bl Bool.false, .bl Bool.false, .bl Bool.false, .bl Bool.false, .bl Bool.false, .bl Bool.false, .bl Bool.false, .bl Bool.false, .bl Bool.false, .bl Bool.false, .bl Bool.false, .bl Bool.false, .bl Bool.false, .bl Bool.false, .bl Bool.false, .bl Bool.false, .bl Bool.false, .bl Bool.false, .bl Bool.false, .bl Bool.false, .bl Bool.false, .bl Bool.false, .bl Bool.false, .bl Bool.false, .bl Bool.false, .bl Bool.false, .bl Bool.false, .bl Bool.false, .bl Bool.false, .bl Bool.false, .bl Bool.false, .bl Bool.false, .bl Bool.false, .bl Bool.false, .bl Bool.false, .bl Bool.false, .bl Bool.false, .bl Bool.false, .bl Bool.false, .bl Bool.false, .bl Bool.false, .bl Bool.false, .bl Bool.false, .bl Bool.false, .bl Bool.false, .bl Bool.false, .bl Bool.false, .bl Bool.false, .bl Bool.false, .bl Bool.false, .bl Bool.false, .bl Bool.false, .bl Bool.false, .bl Bool.false, .bl Bool.false, .bl Bool.false, .bl Bool.false, .bl Bool.false, .bl Bool.false, .bl Bool.false, .bl Bool.false, .bl Bool.false, .bl Bool.false, .bl Bool.false, .bl Bool.false, .bl Bool.false, .bl Bool.false, .bl Bool.false, .bl Bool.false, .bl Bool.false, .bl Bool.false, .bl Bool.false, .bl Bool.false, .bl Bool.false, .bl Bool.false, .bl Bool.false, .bl Bool.false, .bl Bool.false, .bl Bool.false, .bl Bool.false, .bl Bool.false, .bl Bool.false, .bl Bool.false, .bl Bool.false, .bl Bool.false, .bl Bool.false, .bl Bool.false, .bl Bool.false, .bl Bool.false, .bl Bool.false, .bl Bool.false, .bl Bool.false, .bl Bool.false, .bl Bool.false, .bl Bool.false, .bl Bool.false, .bl Bool.false, .bl Bool.false, .bl Bool.false, .bl Bool.false, .bl Bool.false, .bl Bool.false, .bl Bool.false, .bl Bool.false, .bl Bool.false, .bl Bool.false, .bl Bool.false, .bl Bool.false, .bl Bool.false, .bl Bool.false, .bl Bool.false, .bl Bool.false, .bl Bool.false, .bl Bool.false, .bl Bool.false, .bl Bool.false, .bl Bool.false, .bl Bool.false, .bl Bool.false, .bl Bool.false, .bl Bool.false, .bl Bool.false, .bl Bool.false, .bl Bool.false, .bl Bool.false, .bl Bool.false, .bl Bool.false, .bl Bool.false, .bl Bool.false, .bl Bool.false, .bl Bool.false, .bl Bool.false, .bl Bool.false, .bl Bool.false, .bl Bool.false, .bl Bool.false, .bl Bool.false, .bl Bool.false, .bl Bool.false, .bl Bool.false, .bl Bool.false, .bl Bool.false, .bl Bool.false, .bl Bool.false, .bl Bool.false, .bl Bool.false, .bl Bool.false, .bl Bool.false, .bl Bool.false, .bl Bool.false, .bl Bool.false, .bl Bool.false, .bl Bool.false, .bl Bool.false, .bl Bool.false, .bl Bool.false, .bl Bool.false, .bl Bool.false, .bl Bool.false, .bl Bool.false, .bl Bool.false, .bl Bool.false, .bl Bool.false, .bl Bool.false, .bl Bool.false, .bl Bool.false, .bl Bool.false, .bl Bool.false, .bl Bool.false, .bl Bool.false, .bl Bool.false, .bl Bool.false, .bl Bool.false, .bl Bool.false, .bl Bool.false, .bl Bool.false, .bl Bool.false, .bl Bool.false, .bl Bool.false, .bl Bool.false, .bl Bool.false, .bl Bool.false, .bl Bool.false, .bl Bool.false, .bl Bool.false, .bl Bool.false, .bl Bool.false, .bl Bool.false, .bl Bool.false, .bl Bool.false, .bl Bool.false, .bl Bool.false, .bl Bool.false, .bl Bool.false, .bl Bool.false, .bl Bool.false, .bl Bool.false, .bl Bool.false, .bl Bool.false, .bl Bool.false, .bl Bool.false, .bl Bool.false, .bl Bool.false, .bl Bool.false, .bl Bool.false, .bl Bool.false, .bl Bool.false, .bl Bool.false, .bl Bool.false, .bl Bool.false, .bl Bool.false], cmp := .some [.bl Bool.false, .bl Bool.false, .bl Bool.false, .bl Bool.false, .bl Bool.false, .bl Bool.false, .bl Bool.false, .bl Bool.false, .bl Bool.false, .bl Bool.false, .bl Bool.false, .bl Bool.false, .bl Bool.false, .bl Bool.false, .bl Bool.false, .bl Bool.false, .bl Bool.false, .bl Bool.false, .bl Bool.false, .bl Bool.false, .bl Bool.false, .bl Bool.false, .bl Bool.false, .bl Bool.false, .bl Bool.false, .bl Bool.false, .bl Bool.false, .bl Bool.false, .bl Bool.false, .bl Bool.false, .bl Bool.false, .bl Bool.false, .bl Bool.false, .bl Bool.false, .bl Bool.false, .bl Bool.false, .bl Bool.false, .bl Bool.false, .bl Bool.false, .bl Bool.false, .bl Bool.false, .bl Bool.false, .bl Bool.false, .bl Bool.false, .bl Bool.false, .bl Bool.false, .bl Bool.false, .bl Bool.false, .bl Bool.false, .bl Bool.false, .bl Bool.false, .bl Bool.false, .bl Bool.false, .bl Bool.false, .bl Bool.false, .bl Bool.false, .bl Bool.false, .bl Bool.false, .bl Bool.false, .bl Bool.false, .bl Bool.false, .bl Bool.false, .bl Bool.false, .bl Bool.false, .bl Bool.false, .bl Bool.false, .bl Bool.false, .bl Bool.false, .bl Bool.false, .bl Bool.false, .bl Bool.false, .bl Bool.false, .bl Bool.false, .bl Bool.false, .bl Bool.false, .bl Bool.false, .bl Bool.false, .bl Bool.false, .bl Bool.false, .bl Bool.false, .bl Bool.false, .bl Bool.false, .bl Bool.false, .bl Bool.false, .bl Bool.false, .bl Bool.false, .bl Bool.false, .bl Bool.false, .bl Bool.false, .bl Bool.false, .bl Bool.false, .bl Bool.false, .bl Bool.false, .bl Bool.false, .bl Bool.false, .bl Bool.false, .bl Bool.false, .bl Bool.false, .bl Bool.false, .bl Bool.false, .bl Bool.false, .bl Bool.false, .bl Bool.false, .bl Bool.false, .bl Bool.false, .bl Bool.false, .bl Bool.false, .bl Bool.false, .bl Bool.false, .bl Bool.false, .bl Bool.false, .bl Bool.false, .bl Bool.false, .bl Bool.false, .bl Bool.false, .bl Bool.false, .bl Bool.false, .bl Bool.false, .bl Bool.false, .bl Bool.false, .bl Bool.false, .bl Bool.false, .bl Bool.false, .bl Bool.false, .bl Bool.false, .bl Bool.false, .bl Bool.false, .bl Bool.false, .bl Bool.false, .bl Bool.false, .bl Bool.false, .bl Bool.false, .bl Bool.false, .bl Bool.false, .bl Bool.false, .bl Bool.false, .bl Bool.false, .bl Bool.false, .bl Bool.false, .bl Bool.false, .bl Bool.false, .bl Bool.false, .bl Bool.false, .bl Bool.false, .bl Bool.false, .bl Bool.false, .bl Bool.false, .bl Bool.false, .bl Bool.false, .bl Bool.false, .bl Bool.false, .bl Bool.false, .bl Bool.false, .bl Bool.false, .bl Bool.false, .bl Bool.false, .bl Bool.false, .bl Bool.false, .bl Bool.false, .bl Bool.false, .bl Bool.false, .bl Bool.false, .bl Bool.false, .bl Bool.false, .bl Bool.false, .bl Bool.false, .bl Bool.false, .bl Bool.false, .bl Bool.false, .bl Bool.false, .bl Bool.false, .bl Bool.false, .bl Bool.false, .bl Bool.false, .bl Bool.false, .bl Bool.false, .bl Bool.false, .bl Bool.false, .bl Bool.false, .bl Bool.false, .bl Bool.false, .bl Bool.false, .bl Bool.false, .bl Bool.false, .bl Bool.false, .bl Bool.false, .bl Bool.false, .bl Bool.false, .bl Bool.false, .bl Bool.false, .bl Bool.false, .bl Bool.false, .bl Bool.false, .bl Bool.false, .bl Bool.false, .bl Bool.false, .bl Bool.false, .bl Bool.false, .bl Bool.false, .bl Bool.false, .bl Bool.false, .bl Bool.false, .bl Bool.false, .bl Bool.false, .bl Bool.false, .bl Bool.false, .bl Bool.false, .bl Bool.false, .bl Bool.false, .bl Bool.false, .bl Bool.false, .bl Bool.false, .bl Bool.false, .bl Bool.false, .bl Bool.false, .bl Bool.false, .bl Bool.false, .bl Bool.false, .bl Bool.false, .bl Bool.false, .bl Bool.false, .bl Bool.false, .bl Bool.false, .bl Bool.false, .bl Bool.false, .bl Bool.false, .bl Bool.false, .bl Bool.false, .bl Bool.false, .bl Bool.false, .bl Bool.false, .bl Bool.false, .bl Bool.false, .bl Bool.false, .bl Bool.false, .bl Bool.false, .bl Bool.false, .bl Bool.false, .bl Bool.false, .bl Bool.false, .bl Bool.false, .bl Bool.false, .bl Bool.false, .bl Bool.false, .bl Bool.false, .bl Bool.false, .bl Bool.false, .bl Bool.false, .bl Bool.false, .bl Bool.false, .bl Bool.false, .bl Bool.false, .bl Bool.false, .bl Bool.false, .bl Bool.false, .bl Bool.false], pl := [] }),
  (97, { kd := .other, size := 1, bytes := 0, zero := [], cmp := .none, pl := [] }),
  (98, { kd := .func, size := 1, bytes := 8, zero := [.ot .nilFunc], cmp := .none, pl := [] }),
  (99, { kd := .func, size := 1, bytes := 8, zero := [.ot .nilFunc], cmp := .none, pl := [] }),
  (100, { kd := .ptr 96, size := 1, bytes := 8, zero := [.ot (.pointer .none)], cmp := .none, pl := [] }),
  (101, { kd := .func, size := 1, bytes := 8, zero := [.ot .nilFunc], cmp := .none, pl := [] }),
  (102, { kd := .func, size := 1, bytes := 8, zero := [.ot .nilFunc], cmp := .none, pl := [] }),
  (103, { kd := .other, size := 1, bytes := 0, zero := [], cmp := .none, pl := [] }),
  (104, { kd := .func, size := 1, bytes := 8, zero := [.ot .nilFunc], cmp := .none, pl := [] }),
  (105, { kd := .func, size := 1, bytes := 8, zero := [.ot .nilFunc], cmp := .none, pl := [] }),
  (106, { kd := .func, size := 1, bytes := 8, zero := [.ot .nilFunc], cmp := .none, pl := [] }),
  (107, { kd := .func, size := 1, bytes := 8, zero := [.ot .nilFunc], cmp := .none, pl := [] }),
  (108, { kd := .func, size := 1, bytes := 8, zero := [.ot .nilFunc], cmp := .none, pl := [] }),
  (109, { kd := .func, size := 1, bytes := 8, zero := [.ot .nilFunc], cmp := .none, pl := [] }),
  (111, { kd := .struct [(0, 5), (1, 5)], size := 2, bytes := 2, zero := [.it .u8 0, .it .u8 0], cmp := .some [.it .u8 0, .it .u8 0], pl := [(0, 1), (1, 1)] }),
  (112, { kd := .struct [(0, 5), (1, 5)], size := 2, bytes := 2, zero := [.it .u8 0, .it .u8 0], cmp := .some [.it .u8 0, .it .u8 0], pl := [(0, 1), (1, 1)] }),
  (113, { kd := .arr 16 112, size := 32, bytes := 32, zero := [.it .u8 0, .it .u8 0, .it .u8 0, .it .u8 0, .it .u8 0, .it .u8 0, .it .u8 0, .it .u8 0, .it .u8 0, .it .u8 0, .it .u8 0, .it .u8 0, .it .u8 0, .it .u8 0, .it .u8 0, .it .u8 0, .it .u8 0, .it .u8 0, .it .u8 0, .it .u8 0, .it .u8 0, .it .u8 0, .it .u8 0, .it .u8 0, .it .u8 0, .it .u8 0, .it .u8 0, .it .u8 0, .it .u8 0, .it .u8 0, .it .u8 0, .it .u8 0], cmp := .some [.it .u8 0, .it .u8 0, .it .u8 0, .it .u8 0, .it .u8 0, .it .u8 0, .it .u8 0, .it .u8 0, .it .u8 0, .it .u8 0, .it .u8 0, .it .u8 0, .it .u8 0, .it .u8 0, .it .u8 0, .it .u8 0, .it .u8 0, .it .u8 0, .it .u8 0, .it .u8 0, .it .u8 0, .it .u8 0, .it .u8 0, .it .u8 0, .it .u8 0, .it .u8 0, .it .u8 0, .it .u8 0, .it .u8 0, .it .u8 0, .it .u8 0, .it .u8 0], pl := [] }),
  (114, { kd := .int .u32, size := 1, bytes := 4, zero := [.it .u32 0], cmp := .some [.it .u32 0], pl := [] }),
  (115, { kd := .other, size := 1, bytes := 0, zero := [], cmp := .none, pl := [] }),
  (116, { kd := .func, size := 1, bytes := 8, zero := [.ot .nilFunc], cmp := .none, pl := [] }),
  (117, { kd := .func, size := 1, bytes := 8, zero := [.ot .nilFunc], cmp := .none, pl := [] }),
  (118, { kd := .struct [(0, 17), (1, 17), (2, 17), (3, 9)], size := 4, bytes := 40, zero := [.ot (.pointer .none), .ot (.pointer .none), .ot (.pointer .none), .st []], cmp := .none, pl := [(0, 1), (1, 1), (2, 1), (3, 1)] }),
  (119, { kd := .struct [(0, 17), (1, 17), (2, 17), (3, 9)], size := 4, bytes := 40, zero := [.ot (.pointer .none), .ot (.pointer .none), .ot (.pointer .none), .st []], cmp := .none, pl := [(0, 1), (1, 1), (2, 1), (3, 1)] }),
  (120, { kd := .arr 0 16, size := 0, bytes := 0, zero := [], cmp := .none, pl := [] }),
  (121, { kd := .struct [(0, 120)], size := 0, bytes := 0, zero := [], cmp := .none, pl := [(0, 0)] }),
  (122, { kd := .struct [(0, 120)], size := 0, bytes := 0, zero := [], cmp := .none, pl := [(0, 0)] }),
  (123, { kd := .func, size := 1, bytes := 8, zero := [.ot .nilFunc], cmp := .none, pl := [] }),
  (124, { kd := .int .u8, size := 1, bytes := 1, zero := [.it .u8 0], cmp := .some [.it .u8 0], pl := [] }),
  (125, { kd := .int .u8, size := 1, bytes := 1, zero := [.it .u8 0], cmp := .some [.it .u8 0], pl := [] }),
  (126, { kd := .func, size := 1, bytes := 8, zero := [.ot .nilFunc], cmp := .none, pl := [] }),
  (127, { kd := .int .i32, size := 1, bytes := 4, zero := [.it .i32 0], cmp := .some [.it .i32 0], pl := [] }),
  (128, { kd := .int .i32, size := 1, bytes := 4, zero := [.it .i32 0], cmp := .some [.it .i32 0], pl := [] }),
  (129, { kd := .struct [(0, 12), (1, 12), (2, 114), (3, 124), (4, 5), (5, 5), (6, 125), (7, 126), (8, 67), (9, 127), (10, 128)], size := 11, bytes := 48, zero := [.it .u64 0, .it .u64 0, .it .u32 0, .it .u8 0, .it .u8 0, .it .u8 0, .it .u8 0, .ot .nilFunc, .ot (.pointer .none), .it .i32 0, .it .i32 0], cmp := .none, pl := [(0, 1), (1, 1), (2, 1), (3, 1), (4, 1), (5, 1), (6, 1), (7, 1), (8, 1), (9, 1), (10, 1)] }),
  (130, { kd := .struct [(0, 12), (1, 12), (2, 114), (3, 124), (4, 5), (5, 5), (6, 125), (7, 126), (8, 67), (9, 127), (10, 128)], size := 11, bytes := 48, zero := [.it .u64 0, .it .u64 0, .it .u32 0, .it .u8 0, .it .u8 0, .it .u8 0, .it .u8 0, .ot .nilFunc, .ot (.pointer .none), .it .i32 0, .it .i32 0], cmp := .none, pl := [(0, 1), (1, 1), (2, 1), (3, 1), (4, 1), (5, 1), (6, 1), (7, 1), (8, 1), (9, 1), (10, 1)] })]
def ti (t : Nat) : Option Ty := Go.Sy.look t tyL
theorem tyL_ok : tyL.map (fun p => tyOf Tryd.prog p.1) = tyL.map (fun p => some p.2) := by kernel_rfl
theorem ti_ok : TiOK Tryd.prog ti := tiOK_of tyL_ok
end Go.Proofs.YtkcpcjhjemedpaaDoor

/- What entering each function needs. Conditions: none. -/
namespace Go.Proofs.YtkcpcjhjemedpaaDoor
open Go.Sy
set_option maxRecDepth 100000
/-- gosem.cut.init -/
theorem i2 : FnI Tryd.prog 2 1 [] (bd Tryd.f2) := FnI.mk' Tryd.func2 rfl rfl rfl Tryd.call2
/-- flotsam/flotsamlaw39.DiffBack -/
theorem i3 : FnI Tryd.prog 3 79 [.tmp 4] (bd Tryd.f3) := FnI.mk' Tryd.func3 rfl rfl rfl Tryd.call3
/-- flotsam/flotsamlaw39.Few -/
theorem i4 : FnI Tryd.prog 4 33 [.tmp 2] (bd Tryd.f4) := FnI.mk' Tryd.func4 rfl rfl rfl Tryd.call4
/-- flotsam/flotsamlaw39.knows -/
theorem i5 : FnI Tryd.prog 5 47 [.tmp 0] (bd Tryd.f5) := FnI.mk' Tryd.func5 rfl rfl rfl Tryd.call5
/-- flotsam/diff.Diff -/
theorem i6 : FnI Tryd.prog 6 87 [.tmp 4, .tmp 5] (bd Tryd.f6) := FnI.mk' Tryd.func6 rfl rfl rfl Tryd.call6
/-- flotsam/diff.Right -/
theorem i7 : FnI Tryd.prog 7 32 [.tmp 2] (bd Tryd.f7) := FnI.mk' Tryd.func7 rfl rfl rfl Tryd.call7
/-- flotsam/diff.Patch -/
theorem i8 : FnI Tryd.prog 8 25 [.tmp 4, .tmp 5] (bd Tryd.f8) := FnI.mk' Tryd.func8 rfl rfl rfl Tryd.call8
/-- flotsam/diff.Back -/
theorem i9 : FnI Tryd.prog 9 16 [.tmp 2] (bd Tryd.f9) := FnI.mk' Tryd.func9 rfl rfl rfl Tryd.call9
/-- flotsam/flotsamref14.Same -/
theorem i10 : FnI Tryd.prog 10 26 [.tmp 4] (bd Tryd.f10) := FnI.mk' Tryd.func10 rfl rfl rfl Tryd.call10
/-- flotsam/diff.Show -/
theorem i11 : FnI Tryd.prog 11 45 [.tmp 2] (bd Tryd.f11) := FnI.mk' Tryd.func11 rfl rfl rfl Tryd.call11
/-- flotsam/diff.paths -/
theorem i12 : FnI Tryd.prog 12 22 [.tmp 4] (bd Tryd.f12) := FnI.mk' Tryd.func12 rfl rfl rfl Tryd.call12
/-- flotsam/diff.may -/
theorem i13 : FnI Tryd.prog 13 12 [.tmp 2] (bd Tryd.f13) := FnI.mk' Tryd.func13 rfl rfl rfl Tryd.call13
/-- slices.Clone[[]flotsam/api.Node,flotsam/api.Node] -/
theorem i14 : FnI Tryd.prog 14 8 [.tmp 2] (bd Tryd.f14) := FnI.mk' Tryd.func14 rfl rfl rfl Tryd.call14
/-- (*flotsam/diff.nodes).do -/
theorem i15 : FnI Tryd.prog 15 40 [.tmp 4] (bd Tryd.f15) := FnI.mk' Tryd.func15 rfl rfl rfl Tryd.call15
/-- slices.Backward[[]flotsam/diff.Change,flotsam/diff.Change] -/
theorem i16 : FnI Tryd.prog 16 4 [.tmp 2] (bd Tryd.f16) := FnI.mk' Tryd.func16 rfl rfl rfl Tryd.call16
/-- flotsam/diff.turned -/
theorem i17 : FnI Tryd.prog 17 23 [.cell 2 37] (bd Tryd.f17) := FnI.mk' Tryd.func17 rfl rfl rfl Tryd.call17
/-- flotsam/diff.Show$1 -/
theorem i18 : FnI Tryd.prog 18 7 [] (bd Tryd.f18) := FnI.mk' Tryd.func18 rfl rfl rfl Tryd.call18
/-- (*strings.Builder).WriteString -/
theorem i19 : FnI Tryd.prog 19 19 [.tmp 4, .tmp 5] (bd Tryd.f19) := FnI.mk' Tryd.func19 rfl rfl rfl Tryd.call19
/-- strings.Join -/
theorem i20 : FnI Tryd.prog 20 75 [.tmp 4] (bd Tryd.f20) := FnI.mk' Tryd.func20 rfl rfl rfl Tryd.call20
/-- (*strings.Builder).String -/
theorem i21 : FnI Tryd.prog 21 14 [.tmp 2] (bd Tryd.f21) := FnI.mk' Tryd.func21 rfl rfl rfl Tryd.call21
/-- flotsam/path.Split -/
theorem i22 : FnI Tryd.prog 22 28 [.tmp 2, .tmp 3] (bd Tryd.f22) := FnI.mk' Tryd.func22 rfl rfl rfl Tryd.call22
/-- flotsam/diff.order[string] -/
theorem i23 : FnI Tryd.prog 23 8 [.tmp 4] (bd Tryd.f23) := FnI.mk' Tryd.func23 rfl rfl rfl Tryd.call23
/-- flotsam/view.Show -/
theorem i24 : FnI Tryd.prog 24 35 [.tmp 2, .tmp 3] (bd Tryd.f24) := FnI.mk' Tryd.func24 rfl rfl rfl Tryd.call24
/-- (*flotsam/diff.nodes).drop -/
theorem i25 : FnI Tryd.prog 25 30 [.tmp 4] (bd Tryd.f25) := FnI.mk' Tryd.func25 rfl rfl rfl Tryd.call25
/-- (*flotsam/diff.nodes).put -/
theorem i26 : FnI Tryd.prog 26 30 [.tmp 4] (bd Tryd.f26) := FnI.mk' Tryd.func26 rfl rfl rfl Tryd.call26
/-- slices.Backward[[]flotsam/diff.Change,flotsam/diff.Change]$1 -/
theorem i27 : FnI Tryd.prog 27 19 [] (bd Tryd.f27) := FnI.mk' Tryd.func27 rfl rfl rfl Tryd.call27
/-- (*strings.Builder).copyCheck -/
theorem i28 : FnI Tryd.prog 28 20 [] (bd Tryd.f28) := FnI.mk' Tryd.func28 rfl rfl rfl Tryd.call28
/-- (*strings.Builder).Grow -/
theorem i29 : FnI Tryd.prog 29 25 [] (bd Tryd.f29) := FnI.mk' Tryd.func29 rfl rfl rfl Tryd.call29
/-- strings.CutPrefix -/
theorem i30 : FnI Tryd.prog 30 11 [.tmp 4, .tmp 5] (bd Tryd.f30) := FnI.mk' Tryd.func30 rfl rfl rfl Tryd.call30
/-- strings.Split -/
theorem i31 : FnI Tryd.prog 31 8 [.tmp 4] (bd Tryd.f31) := FnI.mk' Tryd.func31 rfl rfl rfl Tryd.call31
/-- slices.ContainsFunc[[]string,string] -/
theorem i32 : FnI Tryd.prog 32 9 [.tmp 4] (bd Tryd.f32) := FnI.mk' Tryd.func32 rfl rfl rfl Tryd.call32
/-- flotsam/path.Split$1 -/
theorem i33 : FnI Tryd.prog 33 6 [.tmp 2] (bd Tryd.f33) := FnI.mk' Tryd.func33 rfl rfl rfl Tryd.call33
/-- flotsam/layout.Name -/
theorem i34 : FnI Tryd.prog 34 23 [.tmp 2] (bd Tryd.f34) := FnI.mk' Tryd.func34 rfl rfl rfl Tryd.call34
/-- slices.Compare[[]string,string] -/
theorem i35 : FnI Tryd.prog 35 36 [.tmp 4] (bd Tryd.f35) := FnI.mk' Tryd.func35 rfl rfl rfl Tryd.call35
/-- flotsam/view.may -/
theorem i36 : FnI Tryd.prog 36 31 [.tmp 2] (bd Tryd.f36) := FnI.mk' Tryd.func36 rfl rfl rfl Tryd.call36
/-- flotsam/view.Quote -/
theorem i37 : FnI Tryd.prog 37 30 [.tmp 2] (bd Tryd.f37) := FnI.mk' Tryd.func37 rfl rfl rfl Tryd.call37
/-- slices.Index[flotsam/diff.nodes,flotsam/api.Node] -/
theorem i38 : FnI Tryd.prog 38 19 [.tmp 4] (bd Tryd.f38) := FnI.mk' Tryd.func38 rfl rfl rfl Tryd.call38
/-- (flotsam/diff.nodes).find -/
theorem i39 : FnI Tryd.prog 39 11 [.tmp 4, .tmp 5] (bd Tryd.f39) := FnI.mk' Tryd.func39 rfl rfl rfl Tryd.call39
/-- slices.Insert[flotsam/diff.nodes,flotsam/api.Node] -/
theorem i40 : FnI Tryd.prog 40 95 [.tmp 6] (bd Tryd.f40) := FnI.mk' Tryd.func40 rfl rfl rfl Tryd.call40
/-- slices.Clone[flotsam/diff.nodes,flotsam/api.Node] -/
theorem i41 : FnI Tryd.prog 41 8 [.tmp 2] (bd Tryd.f41) := FnI.mk' Tryd.func41 rfl rfl rfl Tryd.call41
/-- (*strings.Builder).grow -/
theorem i43 : FnI Tryd.prog 43 30 [] (bd Tryd.f43) := FnI.mk' Tryd.func43 rfl rfl rfl Tryd.call43
/-- internal/stringslite.CutPrefix -/
theorem i44 : FnI Tryd.prog 44 15 [.tmp 4, .tmp 5] (bd Tryd.f44) := FnI.mk' Tryd.func44 rfl rfl rfl Tryd.call44
/-- strings.genSplit -/
theorem i45 : FnI Tryd.prog 45 66 [.tmp 8] (bd Tryd.f45) := FnI.mk' Tryd.func45 rfl rfl rfl Tryd.call45
/-- slices.IndexFunc[[]string,string] -/
theorem i46 : FnI Tryd.prog 46 19 [.tmp 4] (bd Tryd.f46) := FnI.mk' Tryd.func46 rfl rfl rfl Tryd.call46
/-- strings.Trim -/
theorem i47 : FnI Tryd.prog 47 43 [.tmp 4] (bd Tryd.f47) := FnI.mk' Tryd.func47 rfl rfl rfl Tryd.call47
/-- cmp.Compare[string] -/
theorem i48 : FnI Tryd.prog 48 20 [.tmp 4] (bd Tryd.f48) := FnI.mk' Tryd.func48 rfl rfl rfl Tryd.call48
/-- flotsam/path.Parent -/
theorem i49 : FnI Tryd.prog 49 32 [.tmp 2, .tmp 3, .tmp 4] (bd Tryd.f49) := FnI.mk' Tryd.func49 rfl rfl rfl Tryd.call49
/-- (*strings.Builder).WriteByte -/
theorem i50 : FnI Tryd.prog 50 17 [.tmp 4] (bd Tryd.f50) := FnI.mk' Tryd.func50 rfl rfl rfl Tryd.call50
/-- flotsam/view.plain -/
theorem i51 : FnI Tryd.prog 51 17 [.tmp 2] (bd Tryd.f51) := FnI.mk' Tryd.func51 rfl rfl rfl Tryd.call51
/-- slices.BinarySearchFunc[flotsam/diff.nodes,flotsam/api.Node,string] -/
theorem i52 : FnI Tryd.prog 52 49 [.tmp 6, .tmp 7] (bd Tryd.f52) := FnI.mk' Tryd.func52 rfl rfl rfl Tryd.call52
/-- (flotsam/diff.nodes).find$1 -/
theorem i53 : FnI Tryd.prog 53 9 [.tmp 4] (bd Tryd.f53) := FnI.mk' Tryd.func53 rfl rfl rfl Tryd.call53
/-- slices.rotateRight[flotsam/api.Node] -/
theorem i55 : FnI Tryd.prog 55 10 [] (bd Tryd.f55) := FnI.mk' Tryd.func55 rfl rfl rfl Tryd.call55
/-- internal/stringslite.HasPrefix -/
theorem i57 : FnI Tryd.prog 57 18 [.tmp 4] (bd Tryd.f57) := FnI.mk' Tryd.func57 rfl rfl rfl Tryd.call57
/-- strings.explode -/
theorem i58 : FnI Tryd.prog 58 50 [.tmp 4] (bd Tryd.f58) := FnI.mk' Tryd.func58 rfl rfl rfl Tryd.call58
/-- strings.Count -/
theorem i59 : FnI Tryd.prog 59 34 [.tmp 4] (bd Tryd.f59) := FnI.mk' Tryd.func59 rfl rfl rfl Tryd.call59
/-- strings.Index -/
theorem i60 : FnI Tryd.prog 60 8 [.tmp 4] (bd Tryd.f60) := FnI.mk' Tryd.func60 rfl rfl rfl Tryd.call60
/-- strings.trimLeftByte -/
theorem i61 : FnI Tryd.prog 61 17 [.tmp 4] (bd Tryd.f61) := FnI.mk' Tryd.func61 rfl rfl rfl Tryd.call61
/-- strings.trimRightByte -/
theorem i62 : FnI Tryd.prog 62 23 [.tmp 4] (bd Tryd.f62) := FnI.mk' Tryd.func62 rfl rfl rfl Tryd.call62
/-- strings.makeASCIISet -/
theorem i63 : FnI Tryd.prog 63 21 [.cell 2 96, .tmp 3] (bd Tryd.f63) := FnI.mk' Tryd.func63 rfl rfl rfl Tryd.call63
/-- strings.trimLeftASCII -/
theorem i64 : FnI Tryd.prog 64 16 [.tmp 4] (bd Tryd.f64) := FnI.mk' Tryd.func64 rfl rfl rfl Tryd.call64
/-- strings.trimRightASCII -/
theorem i65 : FnI Tryd.prog 65 22 [.tmp 4] (bd Tryd.f65) := FnI.mk' Tryd.func65 rfl rfl rfl Tryd.call65
/-- strings.trimLeftUnicode -/
theorem i66 : FnI Tryd.prog 66 23 [.tmp 4] (bd Tryd.f66) := FnI.mk' Tryd.func66 rfl rfl rfl Tryd.call66
/-- strings.trimRightUnicode -/
theorem i67 : FnI Tryd.prog 67 34 [.tmp 4] (bd Tryd.f67) := FnI.mk' Tryd.func67 rfl rfl rfl Tryd.call67
/-- cmp.isNaN[string] -/
theorem i68 : FnI Tryd.prog 68 6 [.tmp 2] (bd Tryd.f68) := FnI.mk' Tryd.func68 rfl rfl rfl Tryd.call68
/-- flotsam/path.Join -/
theorem i69 : FnI Tryd.prog 69 6 [.tmp 2] (bd Tryd.f69) := FnI.mk' Tryd.func69 rfl rfl rfl Tryd.call69
/-- slices.rotateLeft[flotsam/api.Node] -/
theorem i70 : FnI Tryd.prog 70 14 [] (bd Tryd.f70) := FnI.mk' Tryd.func70 rfl rfl rfl Tryd.call70
/-- unicode/utf8.RuneCountInString -/
theorem i71 : FnI Tryd.prog 71 10 [.tmp 2] (bd Tryd.f71) := FnI.mk' Tryd.func71 rfl rfl rfl Tryd.call71
/-- unicode/utf8.DecodeRuneInString -/
theorem i72 : FnI Tryd.prog 72 19 [.tmp 2, .tmp 3] (bd Tryd.f72) := FnI.mk' Tryd.func72 rfl rfl rfl Tryd.call72
/-- internal/stringslite.Index -/
theorem i74 : FnI Tryd.prog 74 143 [.tmp 4] (bd Tryd.f74) := FnI.mk' Tryd.func74 rfl rfl rfl Tryd.call74
/-- (*strings.asciiSet).contains -/
theorem i75 : FnI Tryd.prog 75 10 [.tmp 4] (bd Tryd.f75) := FnI.mk' Tryd.func75 rfl rfl rfl Tryd.call75
/-- strings.ContainsRune -/
theorem i76 : FnI Tryd.prog 76 9 [.tmp 4] (bd Tryd.f76) := FnI.mk' Tryd.func76 rfl rfl rfl Tryd.call76
/-- unicode/utf8.DecodeLastRuneInString -/
theorem i77 : FnI Tryd.prog 77 51 [.tmp 2, .tmp 3] (bd Tryd.f77) := FnI.mk' Tryd.func77 rfl rfl rfl Tryd.call77
/-- slices.Reverse[[]flotsam/api.Node,flotsam/api.Node] -/
theorem i78 : FnI Tryd.prog 78 28 [] (bd Tryd.f78) := FnI.mk' Tryd.func78 rfl rfl rfl Tryd.call78
/-- unicode/utf8.decodeRuneInStringSlow -/
theorem i79 : FnI Tryd.prog 79 117 [.tmp 2, .tmp 3] (bd Tryd.f79) := FnI.mk' Tryd.func79 rfl rfl rfl Tryd.call79
/-- internal/stringslite.IndexByte -/
theorem i80 : FnI Tryd.prog 80 8 [.tmp 4] (bd Tryd.f80) := FnI.mk' Tryd.func80 rfl rfl rfl Tryd.call80
/-- internal/bytealg.Cutover -/
theorem i82 : FnI Tryd.prog 82 6 [.tmp 2] (bd Tryd.f82) := FnI.mk' Tryd.func82 rfl rfl rfl Tryd.call82
/-- internal/bytealg.IndexRabinKarp[string] -/
theorem i83 : FnI Tryd.prog 83 81 [.tmp 4] (bd Tryd.f83) := FnI.mk' Tryd.func83 rfl rfl rfl Tryd.call83
/-- strings.IndexRune -/
theorem i84 : FnI Tryd.prog 84 187 [.tmp 4] (bd Tryd.f84) := FnI.mk' Tryd.func84 rfl rfl rfl Tryd.call84
/-- unicode/utf8.RuneStart -/
theorem i85 : FnI Tryd.prog 85 6 [.tmp 2] (bd Tryd.f85) := FnI.mk' Tryd.func85 rfl rfl rfl Tryd.call85
/-- internal/bytealg.hashStr[string] -/
theorem i87 : FnI Tryd.prog 87 39 [.tmp 2, .tmp 3] (bd Tryd.f87) := FnI.mk' Tryd.func87 rfl rfl rfl Tryd.call87
/-- strings.IndexByte -/
theorem i88 : FnI Tryd.prog 88 8 [.tmp 4] (bd Tryd.f88) := FnI.mk' Tryd.func88 rfl rfl rfl Tryd.call88
/-- unicode/utf8.ValidRune -/
theorem i89 : FnI Tryd.prog 89 17 [.tmp 2] (bd Tryd.f89) := FnI.mk' Tryd.func89 rfl rfl rfl Tryd.call89
/-- gosem.cut.vars -/
theorem i111 : FnI Tryd.prog 111 6 [] (bd Tryd.f111) := FnI.mk' Tryd.func111 rfl rfl rfl Tryd.call111
end Go.Proofs.YtkcpcjhjemedpaaDoor

namespace Go.Proofs.YtkcpcjhjemedpaaDoor
open Go.Sy
set_option maxRecDepth 100000
set_option linter.all false
/- Names, paths, their order; nodes, changes. -/
def signB (c : UInt8) : Bool := decide (97 ≤ c.toNat ∧ c.toNat ≤ 122 ∨ 48 ≤ c.toNat ∧ c.toNat ≤ 57 ∨ c.toNat = 46 ∨ c.toNat = 95)
def nameB (s : List UInt8) : Bool := decide (1 ≤ s.length ∧ s.length ≤ 8 ∧ s ≠ [46] ∧ s ≠ [46, 46]) && s.all signB
/-- The words of a text, parted by a byte. -/
def wordsC (c : UInt8) : List UInt8 → List (List UInt8)
  | [] => [[]]
  | b :: t => if b = c then [] :: wordsC c t else match wordsC c t with
    | [] => [[b]]
    | w :: r => (b :: w) :: r
def splitP (p : List UInt8) : List (List UInt8) × Int :=
  if p = [47] then ([], 0) else
  match p with
  | [] => ([], 9)
  | b :: r => if b = 47 then (if (wordsC 47 r).length ≤ 4 ∧ (wordsC 47 r).all nameB = true then (wordsC 47 r, 0) else ([], 9)) else ([], 9)
def joinP (l : List (List UInt8)) : List UInt8 := (l.map (fun w => 47 :: w)).flatten
structure Nod where
  p : List UInt8
  d : Bool
  x : List UInt8
deriving DecidableEq
def encN (n : Nod) : List D := [.st n.p, .bl n.d, .st n.x]
structure Chg where
  k : Int
  a : Nod
  b : Nod
deriving DecidableEq
def encG (c : Chg) : List D := [.it .i64 c.k, .st c.a.p, .bl c.a.d, .st c.a.x, .st c.b.p, .bl c.b.d, .st c.b.x]
def nod0 : Nod := ⟨[], false, []⟩
def key (p : List UInt8) : List (List UInt8) := (splitP p).1
def mayB (n : Nod) : Bool := decide ((splitP n.p).2 = 0 ∧ (splitP n.p).1 ≠ [] ∧ n.x.length ≤ 128 ∧ (n.d = true → n.x = []))
def cmpS (a b : List UInt8) : Int := if Op.bytesLess a b = true then -1 else if Op.bytesLess b a = true then 1 else 0
def cmpN : List (List UInt8) → List (List UInt8) → Int
  | [], [] => 0
  | [], _ :: _ => -1
  | _ :: _, [] => 1
  | x :: a, y :: b => if cmpS x y = 0 then cmpN a b else cmpS x y
def befN : List (List UInt8) → List (List UInt8) → Bool
  | x :: a, y :: b => if x = y then befN a b else Op.bytesLess x y
  | [], _ :: _ => true
  | _, [] => false
theorem less_irr : ∀ a : List UInt8, Op.bytesLess a a = false
  | [] => rfl
  | a :: t => by simp [Op.bytesLess, less_irr t]
theorem less_tri : ∀ a b : List UInt8, Op.bytesLess a b = false → Op.bytesLess b a = false → a = b
  | [], [], _, _ => rfl
  | [], _ :: _, h, _ => by simp [Op.bytesLess] at h
  | _ :: _, [], _, h => by simp [Op.bytesLess] at h
  | a :: s, b :: t, h, k => by
    simp only [Op.bytesLess, Bool.or_eq_false_iff, Bool.and_eq_false_iff, decide_eq_false_iff_not, beq_eq_false_iff_ne] at h k
    obtain ⟨h1, h2⟩ := h
    obtain ⟨k1, k2⟩ := k
    have e : a = b := by
      apply UInt8.toNat_inj.1
      rw [UInt8.lt_iff_toNat_lt] at h1 k1
      omega
    subst e
    rcases h2 with h2 | h2
    · exact absurd rfl h2
    rcases k2 with k2 | k2
    · exact absurd rfl k2
    rw [less_tri s t h2 k2]
theorem less_trans : ∀ a b c : List UInt8, Op.bytesLess a b = true → Op.bytesLess b c = true → Op.bytesLess a c = true
  | _, _, [], _, h => by simp [Op.bytesLess] at h
  | _, [], _ :: _, h, _ => by simp [Op.bytesLess] at h
  | [], _ :: _, _ :: _, _, _ => rfl
  | a :: s, b :: t, c :: u, h, k => by
    simp only [Op.bytesLess, Bool.or_eq_true, Bool.and_eq_true, decide_eq_true_eq, beq_iff_eq, UInt8.lt_iff_toNat_lt] at h k ⊢
    rcases h with h | ⟨rfl, h⟩
    · rcases k with k | ⟨rfl, k⟩
      · exact .inl (by omega)
      · exact .inl h
    · rcases k with k | ⟨rfl, k⟩
      · exact .inl k
      · exact .inr ⟨rfl, less_trans s t u h k⟩
theorem less_asy (a b : List UInt8) (h : Op.bytesLess a b = true) : Op.bytesLess b a = false := by
  cases hb : Op.bytesLess b a with
  | false => rfl
  | true => have := less_trans _ _ _ h hb; rw [less_irr] at this; cases this
theorem cmpS_self (a : List UInt8) : cmpS a a = 0 := by simp [cmpS, less_irr]
theorem cmpS_0 {a b : List UInt8} (h : cmpS a b = 0) : a = b := by
  unfold cmpS at h
  split at h
  · cases h
  · split at h
    · cases h
    · rename_i h1 h2; exact less_tri a b (by simpa using h1) (by simpa using h2)
theorem cmpS_neg {a b : List UInt8} : cmpS a b < 0 ↔ Op.bytesLess a b = true := by
  unfold cmpS
  split
  · simp [*]
  · split <;> simp [*]
theorem cmpS_anti (a b : List UInt8) : cmpS b a = - cmpS a b := by
  unfold cmpS
  cases h1 : Op.bytesLess a b with
  | true => rw [less_asy a b h1]; rfl
  | false => cases Op.bytesLess b a <;> rfl
theorem cmpN_self : ∀ a, cmpN a a = 0
  | [] => rfl
  | x :: a => by rw [cmpN, if_pos (cmpS_self x), cmpN_self a]
theorem cmpN_0 : ∀ {a b}, cmpN a b = 0 → a = b
  | [], [], _ => rfl
  | [], _ :: _, h => by cases h
  | _ :: _, [], h => by cases h
  | x :: a, y :: b, h => by
    rw [cmpN] at h
    split at h
    · rename_i h1; rw [cmpS_0 h1, cmpN_0 h]
    · rename_i h1; exact absurd h h1
theorem cmpN_anti : ∀ a b, cmpN b a = - cmpN a b
  | [], [] => rfl
  | [], _ :: _ => rfl
  | _ :: _, [] => rfl
  | x :: a, y :: b => by
    rw [cmpN, cmpN, cmpS_anti x y, cmpN_anti a b]
    by_cases h : cmpS x y = 0
    · rw [if_pos h, if_pos (by omega)]
    · rw [if_neg h, if_neg (by omega)]
theorem cmpN_trans : ∀ a b c, cmpN a b < 0 → cmpN b c < 0 → cmpN a c < 0
  | [], [], c, h, _ => by simp [cmpN] at h
  | _ :: _, [], c, h, _ => by simp [cmpN] at h
  | _, _ :: _, [], _, h => by simp [cmpN] at h
  | [], _ :: _, _ :: _, _, _ => by simp [cmpN]
  | x :: a, y :: b, z :: c, h, k => by
    rw [cmpN] at h k ⊢
    by_cases h1 : cmpS x y = 0
    · rw [if_pos h1] at h
      obtain rfl := cmpS_0 h1
      by_cases k1 : cmpS x z = 0
      · rw [if_pos k1] at k ⊢
        exact cmpN_trans a b c h k
      · rw [if_neg k1] at k ⊢; exact k
    · rw [if_neg h1] at h
      by_cases k1 : cmpS y z = 0
      · obtain rfl := cmpS_0 k1
        rw [if_neg h1]; exact h
      · rw [if_neg k1] at k
        have := cmpS_neg.2 (less_trans _ _ _ (cmpS_neg.1 h) (cmpS_neg.1 k))
        rw [if_neg (by omega)]; exact this
theorem cmpN_val : ∀ a b, cmpN a b = -1 ∨ cmpN a b = 0 ∨ cmpN a b = 1
  | [], [] => .inr (.inl rfl)
  | [], _ :: _ => .inl rfl
  | _ :: _, [] => .inr (.inr rfl)
  | x :: a, y :: b => by
    rw [cmpN]
    split
    · exact cmpN_val a b
    · unfold cmpS; split
      · exact .inl rfl
      · split
        · exact .inr (.inr rfl)
        · exact .inr (.inl rfl)
theorem befN_eq : ∀ a b, befN a b = decide (cmpN a b < 0)
  | [], [] => rfl
  | [], _ :: _ => rfl
  | _ :: _, [] => rfl
  | x :: a, y :: b => by
    rw [befN, cmpN]
    by_cases h : x = y
    · subst h; rw [if_pos rfl, if_pos (cmpS_self x), befN_eq a b]
    · rw [if_neg h, if_neg (fun h' => h (cmpS_0 h'))]
      cases hl : Op.bytesLess x y with
      | true => exact (decide_eq_true (cmpS_neg.2 hl)).symm
      | false => exact (decide_eq_false (fun h' => by rw [cmpS_neg.1 h'] at hl; cases hl)).symm
theorem wordsC_ne (c : UInt8) (s : List UInt8) : wordsC c s ≠ [] := by
  cases s with
  | nil => simp [wordsC]
  | cons b t =>
    rw [wordsC]
    split
    · simp
    · split <;> simp
theorem joinP_words (s : List UInt8) : joinP (wordsC 47 s) = 47 :: s := by
  induction s with
  | nil => rfl
  | cons b t ih =>
    rw [wordsC]
    split
    · rename_i h; subst h
      show 47 :: ([] ++ joinP (wordsC 47 t)) = _
      rw [ih]; rfl
    · cases ht : wordsC 47 t with
      | nil => exact absurd ht (wordsC_ne 47 t)
      | cons w r =>
        rw [ht] at ih
        have e : joinP (w :: r) = 47 :: (w ++ joinP r) := rfl
        have e' : joinP ((b :: w) :: r) = 47 :: b :: (w ++ joinP r) := rfl
        rw [e] at ih
        simp only [e']
        rw [List.cons.inj ih |>.2]
/-- A path of nodes is that of its names. -/
theorem key_join {p : List UInt8} (h : (splitP p).2 = 0) (h1 : (splitP p).1 ≠ []) : joinP (key p) = p := by
  unfold key splitP at *
  split at h1
  · exact absurd rfl h1
  · rename_i hp
    rw [if_neg hp] at h ⊢
    split at h1
    · exact absurd rfl h1
    · split at h1
      · rename_i hb; subst hb
        split at h1
        · rename_i hc; simp only [if_pos hc, if_true]; exact joinP_words _
        · exact absurd rfl h1
      · exact absurd rfl h1
theorem may_path {n : Nod} (h : mayB n = true) : joinP (key n.p) = n.p := by
  simp only [mayB, decide_eq_true_eq] at h
  exact key_join h.1 h.2.1
/-- Are they the nodes of a tree? -/
def rightL : Option (List UInt8) → List Nod → Bool
  | _, [] => true
  | o, n :: t => mayB n && (match o with | none => true | some q => decide (cmpN (key q) (key n.p) < 0)) && rightL (some n.p) t
def lt (x y : Nod) : Prop := cmpN (key x.p) (key y.p) < 0
def GoodL (l : List Nod) : Prop := (∀ x ∈ l, mayB x = true) ∧ l.Pairwise lt
theorem lt_trans {x y z : Nod} (h : lt x y) (k : lt y z) : lt x z := cmpN_trans _ _ _ h k
theorem lt_irr (x : Nod) : ¬ lt x x := by unfold lt; rw [cmpN_self]; omega
theorem lt_ne {x y : Nod} (h : lt x y) : x.p ≠ y.p := fun e => by unfold lt at h; rw [e, cmpN_self] at h; omega
theorem right_good : ∀ (l : List Nod) (o : Option (List UInt8)), rightL o l = true → GoodL l ∧ ∀ q, o = some q → ∀ x ∈ l, cmpN (key q) (key x.p) < 0
  | [], _, _ => ⟨⟨(fun _ h => by cases h), .nil⟩, fun _ _ _ h => by cases h⟩
  | n :: t, o, h => by
    simp only [rightL, Bool.and_eq_true] at h
    obtain ⟨⟨h1, h2⟩, h3⟩ := h
    obtain ⟨⟨g1, g2⟩, g3⟩ := right_good t _ h3
    refine ⟨⟨fun x hx => ?_, .cons (fun x hx => g3 _ rfl x hx) g2⟩, fun q hq x hx => ?_⟩
    · rcases List.mem_cons.1 hx with rfl | hx
      · exact h1
      · exact g1 x hx
    · subst hq
      simp only [decide_eq_true_eq] at h2
      rcases List.mem_cons.1 hx with rfl | hx
      · exact h2
      · exact cmpN_trans _ _ _ h2 (g3 _ rfl x hx)
theorem good_tail {x : Nod} {l : List Nod} (h : GoodL (x :: l)) : GoodL l := ⟨fun y hy => h.1 y (List.mem_cons_of_mem _ hy), (List.pairwise_cons.1 h.2).2⟩
/-- What becomes of one list of nodes on its way to another one: side by side. -/
def diffD : List Nod → List Nod → List Chg
  | [], [] => []
  | [], y :: b => ⟨2, nod0, y⟩ :: diffD [] b
  | x :: a, [] => ⟨1, x, nod0⟩ :: diffD a []
  | x :: a, y :: b =>
    if cmpN (key x.p) (key y.p) < 0 then ⟨1, x, nod0⟩ :: diffD a (y :: b)
    else if 0 < cmpN (key x.p) (key y.p) then ⟨2, nod0, y⟩ :: diffD (x :: a) b
    else if x = y then diffD a b else ⟨3, x, y⟩ :: diffD a b
termination_by a b => a.length + b.length
def mergeD : List Nod → List Nod → List Nod
  | [], b => b
  | x :: a, [] => x :: a
  | x :: a, y :: b =>
    if cmpN (key x.p) (key y.p) < 0 then x :: mergeD a (y :: b)
    else if 0 < cmpN (key x.p) (key y.p) then y :: mergeD (x :: a) b
    else x :: mergeD a b
termination_by a b => a.length + b.length
def atP (l : List Nod) (p : List UInt8) : Option Nod := l.find? (fun x => x.p == p)
def emit (a b : List Nod) (n : Nod) : List Chg :=
  match atP b n.p with
  | none => match atP a n.p with | some x => [⟨1, x, nod0⟩] | none => []
  | some y => match atP a n.p with
    | none => [⟨2, nod0, y⟩]
    | some x => if x = y then [] else [⟨3, x, y⟩]
theorem atP_in {l : List Nod} (h : GoodL l) {x : Nod} (hx : x ∈ l) : atP l x.p = some x := by
  induction l with
  | nil => cases hx
  | cons y t ih =>
    unfold atP
    rw [List.find?_cons]
    rcases List.mem_cons.1 hx with rfl | hx'
    · simp
    · have := lt_ne ((List.pairwise_cons.1 h.2).1 x hx')
      rw [show (y.p == x.p) = false by simpa using this]
      exact ih (good_tail h) hx'
theorem atP_no {l : List Nod} {p : List UInt8} (h : ∀ x ∈ l, x.p ≠ p) : atP l p = none := by
  unfold atP
  rw [List.find?_eq_none]
  intro x hx
  simpa using h x hx
/-- The merge, node by node, tells the differences. -/
theorem diff_emit (a0 b0 : List Nod) : ∀ (n : Nat) (a b : List Nod), a.length + b.length = n → GoodL a → GoodL b → (∀ x ∈ a, atP a0 x.p = some x) → (∀ y ∈ b, atP b0 y.p = some y) →
    (∀ x ∈ a, (∀ y ∈ b, y.p ≠ x.p) → atP b0 x.p = none) → (∀ y ∈ b, (∀ x ∈ a, x.p ≠ y.p) → atP a0 y.p = none) → (mergeD a b).flatMap (emit a0 b0) = diffD a b := by
  intro n
  induction n using Nat.strongRecOn with
  | ind n ih =>
    intro a b hn ga gb h1 h2 h3 h4
    have sub : ∀ {l : List Nod} {x : Nod}, GoodL (x :: l) → ∀ z ∈ l, lt x z := fun h => (List.pairwise_cons.1 h.2).1
    match a, b with
    | [], [] => simp [mergeD, diffD]
    | [], y :: b =>
      have e1 := ih (0 + b.length) (by simp at hn; omega) [] b rfl ⟨(fun _ h => by cases h), .nil⟩ (good_tail gb) (fun _ h => by cases h) (fun z hz => h2 z (List.mem_cons_of_mem _ hz)) (fun _ h => by cases h) (fun z hz hh => h4 z (List.mem_cons_of_mem _ hz) hh)
      rw [diffD, ← e1]
      simp only [mergeD, List.flatMap_cons]
      rw [emit, h2 y List.mem_cons_self, h4 y List.mem_cons_self (fun _ h => by cases h)]
      rfl
    | x :: a, [] =>
      have e1 := ih (a.length + 0) (by simp at hn; omega) a [] rfl (good_tail ga) ⟨(fun _ h => by cases h), .nil⟩ (fun z hz => h1 z (List.mem_cons_of_mem _ hz)) (fun _ h => by cases h) (fun z hz hh => h3 z (List.mem_cons_of_mem _ hz) hh) (fun _ h => by cases h)
      rw [diffD, ← e1]
      have em : mergeD (x :: a) [] = x :: mergeD a [] := by cases a <;> simp [mergeD]
      rw [em, List.flatMap_cons, emit, h3 x List.mem_cons_self (fun _ h => by cases h), h1 x List.mem_cons_self]
      rfl
    | x :: a, y :: b =>
      simp only [List.length_cons] at hn
      rw [diffD, mergeD]
      by_cases c1 : cmpN (key x.p) (key y.p) < 0
      · rw [if_pos c1, if_pos c1]
        have nb : ∀ z ∈ y :: b, z.p ≠ x.p := fun z hz => by
          rcases List.mem_cons.1 hz with rfl | hz
          · exact (lt_ne (x := x) (y := z) c1).symm
          · exact (lt_ne (lt_trans (x := x) (y := y) c1 (sub gb z hz))).symm
        have e1 := ih (a.length + (y :: b).length) (by simp; omega) a (y :: b) rfl (good_tail ga) gb (fun z hz => h1 z (List.mem_cons_of_mem _ hz)) h2 (fun z hz hh => h3 z (List.mem_cons_of_mem _ hz) hh) (fun z hz hh => h4 z hz (fun w hw => by
          rcases List.mem_cons.1 hw with rfl | hw
          · exact (nb z hz).symm
          · exact hh w hw))
        rw [List.flatMap_cons, e1, emit, h3 x List.mem_cons_self nb, h1 x List.mem_cons_self]
        rfl
      · rw [if_neg c1, if_neg c1]
        by_cases c2 : 0 < cmpN (key x.p) (key y.p)
        · rw [if_pos c2, if_pos c2]
          have c2' : lt y x := by unfold lt; rw [cmpN_anti]; omega
          have nb : ∀ z ∈ x :: a, z.p ≠ y.p := fun z hz => by
            rcases List.mem_cons.1 hz with rfl | hz
            · exact (lt_ne c2').symm
            · exact (lt_ne (lt_trans c2' (sub ga z hz))).symm
          have e1 := ih ((x :: a).length + b.length) (by simp; omega) (x :: a) b rfl ga (good_tail gb) h1 (fun z hz => h2 z (List.mem_cons_of_mem _ hz)) (fun z hz hh => h3 z hz (fun w hw => by
            rcases List.mem_cons.1 hw with rfl | hw
            · exact (nb z hz).symm
            · exact hh w hw)) (fun z hz hh => h4 z (List.mem_cons_of_mem _ hz) hh)
          rw [List.flatMap_cons, e1, emit, h2 y List.mem_cons_self, h4 y List.mem_cons_self nb]
          rfl
        · rw [if_neg c2, if_neg c2]
          have ek : key x.p = key y.p := cmpN_0 (by omega)
          have ep : x.p = y.p := by rw [← may_path (ga.1 x List.mem_cons_self), ← may_path (gb.1 y List.mem_cons_self), ek]
          have e1 := ih (a.length + b.length) (by omega) a b rfl (good_tail ga) (good_tail gb) (fun z hz => h1 z (List.mem_cons_of_mem _ hz)) (fun z hz => h2 z (List.mem_cons_of_mem _ hz)) (fun z hz hh => h3 z (List.mem_cons_of_mem _ hz) (fun w hw => by
            rcases List.mem_cons.1 hw with rfl | hw
            · rw [← ep]; exact lt_ne (sub ga z hz)
            · exact hh w hw)) (fun z hz hh => h4 z (List.mem_cons_of_mem _ hz) (fun w hw => by
            rcases List.mem_cons.1 hw with rfl | hw
            · rw [ep]; exact lt_ne (sub gb z hz)
            · exact hh w hw))
          rw [List.flatMap_cons, e1, emit, h1 x List.mem_cons_self, ep, h2 y List.mem_cons_self]
          simp only
          split <;> rfl
/-- The reference's: all nodes sorted in, one by one. -/
def insD (n : Nod) : List Nod → List Nod
  | [] => [n]
  | x :: l => if cmpN (key x.p) (key n.p) < 0 then x :: insD n l else n :: x :: l
def sortD (l : List Nod) : List Nod := l.foldl (fun o n => insD n o) []
theorem ins_mem {n z : Nod} : ∀ {l : List Nod}, z ∈ insD n l ↔ z = n ∨ z ∈ l
  | [] => by simp [insD]
  | x :: l => by
    rw [insD]
    split
    · simp only [List.mem_cons, ins_mem (l := l)]
      constructor
      · rintro (h | h | h)
        · exact .inr (.inl h)
        · exact .inl h
        · exact .inr (.inr h)
      · rintro (h | h | h)
        · exact .inr (.inl h)
        · exact .inl h
        · exact .inr (.inr h)
    · simp
theorem ins_sorted {n : Nod} : ∀ {l : List Nod}, l.Pairwise lt → (∀ x ∈ l, cmpN (key x.p) (key n.p) ≠ 0) → (insD n l).Pairwise lt
  | [], _, _ => by simp [insD]
  | x :: l, h, hn => by
    rw [insD]
    obtain ⟨k1, k2⟩ := List.pairwise_cons.1 h
    split
    · rename_i c
      refine .cons (fun z hz => ?_) (ins_sorted k2 fun z hz => hn z (List.mem_cons_of_mem _ hz))
      rcases ins_mem.1 hz with rfl | hz
      · exact c
      · exact k1 z hz
    · rename_i c
      have c' : lt n x := by
        have := hn x List.mem_cons_self
        unfold lt; rw [cmpN_anti]; omega
      refine .cons (fun z hz => ?_) h
      rcases List.mem_cons.1 hz with rfl | hz
      · exact c'
      · exact lt_trans c' (k1 z hz)
theorem sort_aux : ∀ (l o : List Nod), o.Pairwise lt → l.Pairwise (fun x y => cmpN (key x.p) (key y.p) ≠ 0) → (∀ x ∈ o, ∀ y ∈ l, cmpN (key x.p) (key y.p) ≠ 0) →
    (l.foldl (fun o n => insD n o) o).Pairwise lt ∧ ∀ z, z ∈ l.foldl (fun o n => insD n o) o ↔ z ∈ o ∨ z ∈ l
  | [], o, h, _, _ => ⟨h, fun z => by simp⟩
  | n :: l, o, h, hl, ho => by
    obtain ⟨k1, k2⟩ := List.pairwise_cons.1 hl
    rw [List.foldl_cons]
    obtain ⟨r1, r2⟩ := sort_aux l (insD n o) (ins_sorted h fun x hx => ho x hx n List.mem_cons_self) k2 (fun x hx y hy => by
      rcases ins_mem.1 hx with rfl | hx
      · exact k1 y hy
      · exact ho x hx y (List.mem_cons_of_mem _ hy))
    refine ⟨r1, fun z => ?_⟩
    rw [r2, ins_mem, List.mem_cons]
    constructor
    · rintro ((h | h) | h)
      · exact .inr (.inl h)
      · exact .inl h
      · exact .inr (.inr h)
    · rintro (h | h | h)
      · exact .inl (.inr h)
      · exact .inl (.inl h)
      · exact .inr h
theorem sorted_eq : ∀ {l m : List Nod}, l.Pairwise lt → m.Pairwise lt → (∀ z, z ∈ l ↔ z ∈ m) → l = m
  | [], [], _, _, _ => rfl
  | [], y :: m, _, _, h => by have := (h y).2 List.mem_cons_self; cases this
  | x :: l, [], _, _, h => by have := (h x).1 List.mem_cons_self; cases this
  | x :: l, y :: m, hl, hm, h => by
    obtain ⟨a1, a2⟩ := List.pairwise_cons.1 hl
    obtain ⟨b1, b2⟩ := List.pairwise_cons.1 hm
    have e : x = y := by
      rcases List.mem_cons.1 ((h x).1 List.mem_cons_self) with h1 | h1
      · exact h1
      · rcases List.mem_cons.1 ((h y).2 List.mem_cons_self) with h2 | h2
        · exact h2.symm
        · exact absurd (lt_trans (a1 y h2) (b1 x h1)) (lt_irr x)
    subst e
    rw [sorted_eq a2 b2 fun z => ?_]
    constructor
    · intro hz
      rcases List.mem_cons.1 ((h z).1 (List.mem_cons_of_mem _ hz)) with rfl | h1
      · exact absurd (a1 z hz) (lt_irr z)
      · exact h1
    · intro hz
      rcases List.mem_cons.1 ((h z).2 (List.mem_cons_of_mem _ hz)) with rfl | h1
      · exact absurd (b1 z hz) (lt_irr z)
      · exact h1
theorem merge_ok : ∀ (n : Nat) (a b : List Nod), a.length + b.length = n → GoodL a → GoodL b → (mergeD a b).Pairwise lt ∧ ∀ z, z ∈ mergeD a b ↔ z ∈ a ∨ (z ∈ b ∧ ∀ x ∈ a, x.p ≠ z.p) := by
  intro n
  induction n using Nat.strongRecOn with
  | ind n ih =>
    intro a b hn ga gb
    have sub : ∀ {l : List Nod} {x : Nod}, GoodL (x :: l) → ∀ z ∈ l, lt x z := fun h => (List.pairwise_cons.1 h.2).1
    match a, b with
    | [], b => simp only [mergeD]; exact ⟨gb.2, fun z => by simp⟩
    | x :: a, [] => simp only [mergeD]; exact ⟨ga.2, fun z => by simp⟩
    | x :: a, y :: b =>
      simp only [List.length_cons] at hn
      rw [mergeD]
      by_cases c1 : cmpN (key x.p) (key y.p) < 0
      · rw [if_pos c1]
        obtain ⟨r1, r2⟩ := ih (a.length + (y :: b).length) (by simp; omega) a (y :: b) rfl (good_tail ga) gb
        have nb : ∀ z ∈ y :: b, lt x z := fun z hz => by
          rcases List.mem_cons.1 hz with rfl | hz
          · exact c1
          · exact lt_trans (x := x) (y := y) c1 (sub gb z hz)
        refine ⟨.cons (fun z hz => ?_) r1, fun z => ?_⟩
        · rcases (r2 z).1 hz with h | h
          · exact sub ga z h
          · exact nb z h.1
        · rw [List.mem_cons, r2]
          constructor
          · rintro (rfl | h | ⟨h, k⟩)
            · exact .inl List.mem_cons_self
            · exact .inl (List.mem_cons_of_mem _ h)
            · refine .inr ⟨h, fun w hw => ?_⟩
              rcases List.mem_cons.1 hw with rfl | hw
              · exact lt_ne (nb z h)
              · exact k w hw
          · rintro (h | ⟨h, k⟩)
            · rcases List.mem_cons.1 h with rfl | h
              · exact .inl rfl
              · exact .inr (.inl h)
            · exact .inr (.inr ⟨h, fun w hw => k w (List.mem_cons_of_mem _ hw)⟩)
      · rw [if_neg c1]
        by_cases c2 : 0 < cmpN (key x.p) (key y.p)
        · rw [if_pos c2]
          have c2' : lt y x := by unfold lt; rw [cmpN_anti]; omega
          obtain ⟨r1, r2⟩ := ih ((x :: a).length + b.length) (by simp; omega) (x :: a) b rfl ga (good_tail gb)
          have nb : ∀ z ∈ x :: a, lt y z := fun z hz => by
            rcases List.mem_cons.1 hz with rfl | hz
            · exact c2'
            · exact lt_trans c2' (sub ga z hz)
          refine ⟨.cons (fun z hz => ?_) r1, fun z => ?_⟩
          · rcases (r2 z).1 hz with h | h
            · exact nb z h
            · exact sub gb z h.1
          · rw [List.mem_cons, r2]
            constructor
            · rintro (rfl | h | ⟨h, k⟩)
              · exact .inr ⟨List.mem_cons_self, fun w hw => (lt_ne (nb w hw)).symm⟩
              · exact .inl h
              · exact .inr ⟨List.mem_cons_of_mem _ h, k⟩
            · rintro (h | ⟨h, k⟩)
              · exact .inr (.inl h)
              · rcases List.mem_cons.1 h with rfl | h
                · exact .inl rfl
                · exact .inr (.inr ⟨h, k⟩)
        · rw [if_neg c2]
          have ek : key x.p = key y.p := cmpN_0 (by omega)
          have ep : x.p = y.p := by rw [← may_path (ga.1 x List.mem_cons_self), ← may_path (gb.1 y List.mem_cons_self), ek]
          obtain ⟨r1, r2⟩ := ih (a.length + b.length) (by omega) a b rfl (good_tail ga) (good_tail gb)
          refine ⟨.cons (fun z hz => ?_) r1, fun z => ?_⟩
          · rcases (r2 z).1 hz with h | h
            · exact sub ga z h
            · have := sub gb z h.1
              unfold lt at this ⊢; rw [ek]; exact this
          · rw [List.mem_cons, r2]
            constructor
            · rintro (rfl | h | ⟨h, k⟩)
              · exact .inl List.mem_cons_self
              · exact .inl (List.mem_cons_of_mem _ h)
              · refine .inr ⟨List.mem_cons_of_mem _ h, fun w hw => ?_⟩
                rcases List.mem_cons.1 hw with rfl | hw
                · rw [ep]; exact lt_ne (sub gb z h)
                · exact k w hw
            · rintro (h | ⟨h, k⟩)
              · rcases List.mem_cons.1 h with rfl | h
                · exact .inl rfl
                · exact .inr (.inl h)
              · rcases List.mem_cons.1 h with rfl | h
                · exact absurd ep (k x List.mem_cons_self)
                · exact .inr (.inr ⟨h, fun w hw => k w (List.mem_cons_of_mem _ hw)⟩)
def allD (a b : List Nod) : List Nod := a ++ b.filter (fun y => (atP a y.p).isNone)
theorem atP_none {l : List Nod} {p : List UInt8} : (atP l p).isNone = true ↔ ∀ x ∈ l, x.p ≠ p := by
  unfold atP
  rw [Option.isNone_iff_eq_none, List.find?_eq_none]
  constructor
  · intro h x hx; simpa using h x hx
  · intro h x hx; simpa using h x hx
/-- **The two ways to tell differences tell the same.** -/
theorem diff_eq {a b : List Nod} (ga : GoodL a) (gb : GoodL b) : (sortD (allD a b)).flatMap (emit a b) = diffD a b := by
  obtain ⟨m1, m2⟩ := merge_ok _ a b rfl ga gb
  have kne : ∀ {x y : Nod}, mayB x = true → mayB y = true → x.p ≠ y.p → cmpN (key x.p) (key y.p) ≠ 0 := fun hx hy h e => h (by rw [← may_path hx, ← may_path hy, cmpN_0 e])
  have hp : (allD a b).Pairwise (fun x y => cmpN (key x.p) (key y.p) ≠ 0) := by
    unfold allD
    rw [List.pairwise_append]
    refine ⟨ga.2.imp fun h => by unfold lt at h; omega, (gb.2.imp fun {x y} h => by unfold lt at h; omega).sublist List.filter_sublist, fun x hx y hy => ?_⟩
    obtain ⟨y1, y2⟩ := List.mem_filter.1 hy
    exact kne (ga.1 x hx) (gb.1 y y1) (atP_none.1 y2 x hx)
  obtain ⟨s1, s2⟩ := sort_aux (allD a b) [] .nil hp (fun _ h => by cases h)
  have e : sortD (allD a b) = mergeD a b := sorted_eq s1 m1 fun z => by
    refine (s2 z).trans ?_
    rw [m2]
    unfold allD
    rw [List.mem_append, List.mem_filter]
    constructor
    · rintro (h | h | ⟨h, k⟩)
      · cases h
      · exact .inl h
      · exact .inr ⟨h, atP_none.1 k⟩
    · rintro (h | ⟨h, k⟩)
      · exact .inr (.inl h)
      · exact .inr (.inr ⟨h, atP_none.2 k⟩)
  rw [e]
  exact diff_emit a b _ a b rfl ga gb (fun x hx => atP_in ga hx) (fun y hy => atP_in gb hy) (fun x _ h => atP_no h) (fun y _ h => atP_no h)
end Go.Proofs.YtkcpcjhjemedpaaDoor

namespace Go.Proofs.YtkcpcjhjemedpaaDoor
open Go.Sy
set_option maxRecDepth 100000
set_option linter.all false
theorem mixed : Tryd.prog.follows .mixedOrders = true := by kernel_rfl
theorem noEsc (u : Value) (w : World) : (callFunc 42 #[u]).run Tryd.prog w = .ok (.value u) w := by
  rw [run_callFunc_extern Tryd.func42 (by kernel_rfl) (by kernel_rfl) (by kernel_rfl) (e := Extern.AbiNoEscape.same) (by kernel_rfl), Lib.run_noEscape]
  rfl
theorem signB_t {c : UInt8} (h : 97 ≤ c.toNat ∧ c.toNat ≤ 122 ∨ 48 ≤ c.toNat ∧ c.toNat ≤ 57 ∨ c.toNat = 46 ∨ c.toNat = 95) : signB c = true := decide_eq_true h
theorem signB_f {c : UInt8} (h : ¬ (97 ≤ c.toNat ∧ c.toNat ≤ 122 ∨ 48 ≤ c.toNat ∧ c.toNat ≤ 57 ∨ c.toNat = 46 ∨ c.toNat = 95)) : signB c = false := decide_eq_false h
theorem all_snocB {f : UInt8 → Bool} {l : List UInt8} {k : Nat} {c : UInt8} (h : l[k]? = some c) : (l.take (k + 1)).all f = ((l.take k).all f && f c) := by
  rw [take_snoc h, List.all_append]; simp
theorem not_allB {f : UInt8 → Bool} {l : List UInt8} {k : Nat} {c : UInt8} (h : l[k]? = some c) (hc : f c = false) : l.all f = false := by
  rw [List.all_eq_false]
  exact ⟨c, List.mem_of_getElem? h, by simp [hc]⟩
theorem nameB_no {s : List UInt8} (h : ¬ (1 ≤ s.length ∧ s.length ≤ 8 ∧ s ≠ [46] ∧ s ≠ [46, 46])) : nameB s = false := by rw [nameB, decide_eq_false h]; rfl
theorem nameB_all {s : List UInt8} (h : s.all signB = false) : nameB s = false := by rw [nameB, h, Bool.and_false]
theorem nameB_yes {s : List UInt8} (h1 : 1 ≤ s.length) (h2 : s.length ≤ 8) (h3 : ¬ s = [46]) (h4 : ¬ s = [46, 46]) : nameB s = s.all signB := by rw [nameB, decide_eq_true ⟨h1, h2, h3, h4⟩]; rfl
def plainB (c : UInt8) : Bool := decide (32 ≤ c.toNat ∧ c.toNat ≤ 126 ∧ c.toNat ≠ 34 ∧ c.toNat ≠ 92)
theorem plain_ok (c : UInt8) : FnC Tryd.prog 51 [.d (.it .u8 c.toNat)] (.d (.bl (plainB c))) := by
  refine FnC.intro ti_ok Tryd.func51 rfl Tryd.ntmps51 Tryd.call51 rfl (Nat.le_of_ble_eq_true rfl) rfl ?_
  (repeat' ((conv => whnf); first | with_reducible refine Spl.tt ?_ | with_reducible refine Spl.ff ?_ | with_reducible refine draw_auto ti_ok mixed (by decide +kernel) ?_ | with_reducible refine LetI.i64 (by first | omega | (with_unfolding_all exact Nat.le_of_ble_eq_true rfl) | (simp only [List.length_append, List.length_cons, List.length_nil, List.length_map, chunk_length]; omega)) ?_ | with_reducible refine LetI.u64 (by omega) ?_ | with_reducible refine LetI.u8 (by omega) ?_ | with_reducible refine LetI.i64q (by omega) ?_ | with_reducible refine LetI.u64q (by omega) ?_ | with_reducible refine LetI.rem (by omega) ?_ | with_reducible refine LetN.mk ?_ | with_reducible refine at_hm (by assumption) ?_ | with_reducible refine at_hb (by assumption) ?_ | with_reducible refine at_lit (by simp only [List.length_map, List.length_cons, List.length_nil]; omega) (by with_unfolding_all exact rfl) ?_ | with_reducible refine at_natm8 (by omega) (fun x hx hu => ?_) | with_reducible refine at_nat8 (by omega) (fun x hx hu => ?_) | with_reducible refine at_bi8 (by omega) (fun x hx hu => ?_) | with_reducible refine at_natm (by omega) (fun x hx => ?_) | with_reducible refine at_intm (by omega) (fun x hx => ?_) | with_reducible refine at_nat (by omega) (fun x hx => ?_) | with_reducible refine at_bi (by omega) (fun x hx => ?_) | with_reducible refine And.intro (by first | omega | (dsimp only; omega) | (with_unfolding_all exact Nat.le_of_ble_eq_true rfl) | (simp only [List.length_append, List.length_cons, List.length_nil, List.length_map, chunk_length]; omega)) ?_ | with_reducible refine cond_tt (by first | exact rfl | exact (ble_tt (by first | omega | (dsimp only; omega))) | exact (blt_tt (by first | omega | (dsimp only; omega))) | exact band_tt rfl rfl | exact band_tt rfl (ble_tt (by first | omega | (dsimp only; omega))) | exact band_tt rfl (blt_tt (by first | omega | (dsimp only; omega))) | exact band_tt (ble_tt (by first | omega | (dsimp only; omega))) rfl | exact band_tt (ble_tt (by first | omega | (dsimp only; omega))) (ble_tt (by first | omega | (dsimp only; omega))) | exact band_tt (ble_tt (by first | omega | (dsimp only; omega))) (blt_tt (by first | omega | (dsimp only; omega))) | exact band_tt (blt_tt (by first | omega | (dsimp only; omega))) rfl | exact band_tt (blt_tt (by first | omega | (dsimp only; omega))) (ble_tt (by first | omega | (dsimp only; omega))) | exact band_tt (blt_tt (by first | omega | (dsimp only; omega))) (blt_tt (by first | omega | (dsimp only; omega)))) ?_ | with_reducible refine Both.mk ?_ ?_ | with_reducible refine NilS.ts ?_ | with_reducible refine LetE.now ?_ | with_reducible refine at_some (by with_unfolding_all exact rfl) ?_ | with_reducible refine Spl.yes (by decide +kernel) ?_ | with_reducible refine Spl.no (by decide +kernel) ?_ | with_reducible refine Spl.yes (by (first | with_reducible assumption | with_unfolding_all exact rfl | exact dtt (by omega) | exact ett (by omega) | exact ntt (by omega) | exact seq_tt (by with_unfolding_all assumption) | exact sne_tt (by with_unfolding_all assumption))) ?_ | with_reducible refine Spl.no (by (first | with_reducible assumption | with_unfolding_all exact rfl | exact dff (by omega) | exact eff (by omega) | exact nff (by omega) | exact seq_ff (by with_unfolding_all assumption) | exact sne_ff (by with_unfolding_all assumption))) ?_ | with_reducible refine Spl.pd (fun h => ?_) (fun h => ?_) | with_reducible refine Spl.peq (fun h => ?_) (fun h => ?_) | with_reducible refine Spl.pne (fun h => ?_) (fun h => ?_) | with_reducible refine Spl.seq (fun h => ?_) (fun h => ?_) | with_reducible refine Spl.sne (fun h => ?_) (fun h => ?_) | with_reducible refine Spl.nt ?_ | with_reducible refine Spl.mk (fun h => ?_) (fun h => ?_)))
  all_goals (conv => whnf)
  all_goals (refine bl_eq ?_)
  all_goals (unfold plainB)
  all_goals first | exact (decide_eq_true (by omega)).symm | exact (decide_eq_false (by omega)).symm | (by_cases h92 : (c.toNat : Int) = 92 <;> first | (rw [nff h92]; exact (decide_eq_false (by omega)).symm) | (rw [ntt h92]; exact (decide_eq_true (by omega)).symm))
def signs : List UInt8 := [97, 98, 99, 100, 101, 102, 103, 104, 105, 106, 107, 108, 109, 110, 111, 112, 113, 114, 115, 116, 117, 118, 119, 120, 121, 122, 48, 49, 50, 51, 52, 53, 54, 55, 56, 57, 46, 95]
def tabS (l : List UInt8) : List D := (List.range 256).map fun j => .bl (l.any fun c => c.toNat == j)
theorem all_d (l : List D) (m : Nat) : (l.map AV.d).all (AV.lt1 m) = true := by
  rw [List.all_eq_true]
  intro x hx
  obtain ⟨b, _, rfl⟩ := List.mem_map.1 hx
  rfl
theorem tabS_upd {l : List UInt8} {c : UInt8} : ((tabS l).map AV.d).take c.toNat ++ [AV.d (.bl true)] ++ ((tabS l).map AV.d).drop (c.toNat + 1) = (tabS (l ++ [c])).map AV.d := by
  have hc := c.toNat_lt
  apply List.ext_getElem
  · simp [tabS]; omega
  · intro i h1 h2
    simp only [tabS, List.length_map, List.length_range] at h2
    rcases Nat.lt_trichotomy i c.toNat with h | h | h
    · rw [List.getElem_append_left (by simp [tabS]; omega), List.getElem_append_left (by simp [tabS]; omega)]
      simp [tabS, show ¬ c.toNat = i by omega]
    · subst h
      rw [List.getElem_append_left (by simp [tabS]; omega), List.getElem_append_right (by simp [tabS]; omega)]
      simp [tabS]
    · rw [List.getElem_append_right (by simp [tabS]; omega)]
      simp [tabS, show ¬ c.toNat = i by omega, show c.toNat + 1 + (i - (min c.toNat 256 + 1)) = i by omega]
theorem makeSet_ok : FnC Tryd.prog 63 [.d (.st signs)] (.tup [.dg 256 (tabS signs), .d (.bl true)]) := by
  refine FnC.intro ti_ok Tryd.func63 rfl Tryd.ntmps63 Tryd.call63 rfl (Nat.le_of_ble_eq_true rfl) rfl ?_
  (repeat' ((conv => whnf); first | with_reducible refine Spl.tt ?_ | with_reducible refine Spl.ff ?_ | with_reducible refine draw_auto ti_ok mixed (by decide +kernel) ?_ | with_reducible refine LetI.i64 (by first | omega | (with_unfolding_all exact Nat.le_of_ble_eq_true rfl) | (simp only [List.length_append, List.length_cons, List.length_nil, List.length_map, chunk_length]; omega)) ?_ | with_reducible refine LetI.u64 (by omega) ?_ | with_reducible refine LetI.u8 (by omega) ?_ | with_reducible refine LetI.i64q (by omega) ?_ | with_reducible refine LetI.u64q (by omega) ?_ | with_reducible refine LetI.rem (by omega) ?_ | with_reducible refine LetN.mk ?_ | with_reducible refine at_hm (by assumption) ?_ | with_reducible refine at_hb (by assumption) ?_ | with_reducible refine at_lit (by simp only [List.length_map, List.length_cons, List.length_nil]; omega) (by with_unfolding_all exact rfl) ?_ | with_reducible refine at_natm8 (by omega) (fun x hx hu => ?_) | with_reducible refine at_nat8 (by omega) (fun x hx hu => ?_) | with_reducible refine at_bi8 (by omega) (fun x hx hu => ?_) | with_reducible refine at_natm (by omega) (fun x hx => ?_) | with_reducible refine at_intm (by omega) (fun x hx => ?_) | with_reducible refine at_nat (by omega) (fun x hx => ?_) | with_reducible refine at_bi (by omega) (fun x hx => ?_) | with_reducible refine And.intro (by first | omega | (dsimp only; omega) | (with_unfolding_all exact Nat.le_of_ble_eq_true rfl) | (simp only [List.length_append, List.length_cons, List.length_nil, List.length_map, chunk_length]; omega)) ?_ | with_reducible refine cond_tt (by first | exact rfl | exact (ble_tt (by first | omega | (dsimp only; omega))) | exact (blt_tt (by first | omega | (dsimp only; omega))) | exact band_tt rfl rfl | exact band_tt rfl (ble_tt (by first | omega | (dsimp only; omega))) | exact band_tt rfl (blt_tt (by first | omega | (dsimp only; omega))) | exact band_tt (ble_tt (by first | omega | (dsimp only; omega))) rfl | exact band_tt (ble_tt (by first | omega | (dsimp only; omega))) (ble_tt (by first | omega | (dsimp only; omega))) | exact band_tt (ble_tt (by first | omega | (dsimp only; omega))) (blt_tt (by first | omega | (dsimp only; omega))) | exact band_tt (blt_tt (by first | omega | (dsimp only; omega))) rfl | exact band_tt (blt_tt (by first | omega | (dsimp only; omega))) (ble_tt (by first | omega | (dsimp only; omega))) | exact band_tt (blt_tt (by first | omega | (dsimp only; omega))) (blt_tt (by first | omega | (dsimp only; omega)))) ?_ | with_reducible refine Both.mk ?_ ?_ | with_reducible refine NilS.ts ?_ | with_reducible refine LetE.now ?_ | with_reducible refine at_some (by with_unfolding_all exact rfl) ?_ | with_reducible refine Spl.yes (by decide +kernel) ?_ | with_reducible refine Spl.no (by decide +kernel) ?_ | with_reducible refine Spl.yes (by (first | with_reducible assumption | with_unfolding_all exact rfl | exact dtt (by omega) | exact ett (by omega) | exact ntt (by omega) | exact seq_tt (by with_unfolding_all assumption) | exact sne_tt (by with_unfolding_all assumption))) ?_ | with_reducible refine Spl.no (by (first | with_reducible assumption | with_unfolding_all exact rfl | exact dff (by omega) | exact eff (by omega) | exact nff (by omega) | exact seq_ff (by with_unfolding_all assumption) | exact sne_ff (by with_unfolding_all assumption))) ?_ | with_reducible refine Spl.pd (fun h => ?_) (fun h => ?_) | with_reducible refine Spl.peq (fun h => ?_) (fun h => ?_) | with_reducible refine Spl.pne (fun h => ?_) (fun h => ?_) | with_reducible refine Spl.seq (fun h => ?_) (fun h => ?_) | with_reducible refine Spl.sne (fun h => ?_) (fun h => ?_) | with_reducible refine Spl.nt ?_ | with_reducible refine Spl.mk (fun h => ?_) (fun h => ?_)))
  refine loop_rule ti_ok (fun k : Nat => k ≤ signs.length) (fun k => ⟨[(0, .d (.st signs)), (2, .ptr 0 0), (4, .d (.it .i64 k))], [(0, .cells 256 ((tabS (signs.take k)).map .d))], 1⟩) (fun k => signs.length - k) 0 (Nat.zero_le _) ⟨⟨rfl, rfl, rfl, trivial⟩, ⟨?_, trivial⟩, ?_⟩ ?_
  · refine cells_eq rfl (by kernel_rfl)
  · simp only [S.ok, List.all_cons, List.all_nil, Ob.lt, all_d]; rfl
  have hlow : ∀ c ∈ signs, c.toNat < 128 := by decide
  have hl38 : signs.length = 38 := rfl
  intro k hk
  (repeat' ((conv => whnf); first | with_reducible refine Spl.tt ?_ | with_reducible refine Spl.ff ?_ | with_reducible refine draw_auto ti_ok mixed (by decide +kernel) ?_ | with_reducible refine LetI.i64 (by first | omega | (with_unfolding_all exact Nat.le_of_ble_eq_true rfl) | (simp only [List.length_append, List.length_cons, List.length_nil, List.length_map, chunk_length]; omega)) ?_ | with_reducible refine LetI.u64 (by omega) ?_ | with_reducible refine LetI.u8 (by omega) ?_ | with_reducible refine LetI.i64q (by omega) ?_ | with_reducible refine LetI.u64q (by omega) ?_ | with_reducible refine LetI.rem (by omega) ?_ | with_reducible refine LetN.mk ?_ | with_reducible refine at_hm (by assumption) ?_ | with_reducible refine at_hb (by assumption) ?_ | with_reducible refine at_lit (by simp only [List.length_map, List.length_cons, List.length_nil]; omega) (by with_unfolding_all exact rfl) ?_ | with_reducible refine at_natm8 (by omega) (fun x hx hu => ?_) | with_reducible refine at_nat8 (by omega) (fun x hx hu => ?_) | with_reducible refine at_bi8 (by omega) (fun x hx hu => ?_) | with_reducible refine at_natm (by omega) (fun x hx => ?_) | with_reducible refine at_intm (by omega) (fun x hx => ?_) | with_reducible refine at_nat (by omega) (fun x hx => ?_) | with_reducible refine at_bi (by omega) (fun x hx => ?_) | with_reducible refine And.intro (by first | omega | (dsimp only; omega) | (with_unfolding_all exact Nat.le_of_ble_eq_true rfl) | (simp only [List.length_append, List.length_cons, List.length_nil, List.length_map, chunk_length]; omega)) ?_ | with_reducible refine cond_tt (by first | exact rfl | exact (ble_tt (by first | omega | (dsimp only; omega))) | exact (blt_tt (by first | omega | (dsimp only; omega))) | exact band_tt rfl rfl | exact band_tt rfl (ble_tt (by first | omega | (dsimp only; omega))) | exact band_tt rfl (blt_tt (by first | omega | (dsimp only; omega))) | exact band_tt (ble_tt (by first | omega | (dsimp only; omega))) rfl | exact band_tt (ble_tt (by first | omega | (dsimp only; omega))) (ble_tt (by first | omega | (dsimp only; omega))) | exact band_tt (ble_tt (by first | omega | (dsimp only; omega))) (blt_tt (by first | omega | (dsimp only; omega))) | exact band_tt (blt_tt (by first | omega | (dsimp only; omega))) rfl | exact band_tt (blt_tt (by first | omega | (dsimp only; omega))) (ble_tt (by first | omega | (dsimp only; omega))) | exact band_tt (blt_tt (by first | omega | (dsimp only; omega))) (blt_tt (by first | omega | (dsimp only; omega)))) ?_ | with_reducible refine Both.mk ?_ ?_ | with_reducible refine NilS.ts ?_ | with_reducible refine LetE.now ?_ | with_reducible refine at_some (by with_unfolding_all exact rfl) ?_ | with_reducible refine Spl.yes (by decide +kernel) ?_ | with_reducible refine Spl.no (by decide +kernel) ?_ | with_reducible refine Spl.yes (by (first | with_reducible assumption | with_unfolding_all exact rfl | exact dtt (by omega) | exact ett (by omega) | exact ntt (by omega) | exact seq_tt (by with_unfolding_all assumption) | exact sne_tt (by with_unfolding_all assumption))) ?_ | with_reducible refine Spl.no (by (first | with_reducible assumption | with_unfolding_all exact rfl | exact dff (by omega) | exact eff (by omega) | exact nff (by omega) | exact seq_ff (by with_unfolding_all assumption) | exact sne_ff (by with_unfolding_all assumption))) ?_ | with_reducible refine Spl.pd (fun h => ?_) (fun h => ?_) | with_reducible refine Spl.peq (fun h => ?_) (fun h => ?_) | with_reducible refine Spl.pne (fun h => ?_) (fun h => ?_) | with_reducible refine Spl.seq (fun h => ?_) (fun h => ?_) | with_reducible refine Spl.sne (fun h => ?_) (fun h => ?_) | with_reducible refine Spl.nt ?_ | with_reducible refine Spl.mk (fun h => ?_) (fun h => ?_)))
  · have := hlow x (List.mem_of_getElem? hx); omega
  · refine again (k + 1) (by omega) (by dsimp only; omega) (And.intro rfl (And.intro rfl (And.intro rfl trivial))) (And.intro (cells_eq rfl ?_) trivial) ?_
    · rw [take_snoc hx, ← tabS_upd]
      simp only [Nat.zero_add, Int.toNat_natCast, Nat.mul_one]; rfl
    · simp only [S.ok, List.all_cons, List.all_nil, Ob.lt, all_d]; rfl
  · obtain rfl : k = signs.length := by omega
    (repeat' ((conv => whnf); first | with_reducible refine Spl.tt ?_ | with_reducible refine Spl.ff ?_ | with_reducible refine AtA.mk' ?_ | with_reducible refine draw_auto ti_ok mixed (by decide +kernel) ?_ | with_reducible refine LetI.i64 (by first | omega | (with_unfolding_all exact Nat.le_of_ble_eq_true rfl) | (simp only [List.length_append, List.length_cons, List.length_nil, List.length_map, chunk_length]; omega)) ?_ | with_reducible refine LetI.u64 (by omega) ?_ | with_reducible refine LetI.u8 (by omega) ?_ | with_reducible refine LetI.i64q (by omega) ?_ | with_reducible refine LetI.u64q (by omega) ?_ | with_reducible refine LetI.rem (by omega) ?_ | with_reducible refine LetN.mk ?_ | with_reducible refine at_hm (by assumption) ?_ | with_reducible refine at_hb (by assumption) ?_ | with_reducible refine at_lit (by simp only [List.length_map, List.length_cons, List.length_nil]; omega) (by with_unfolding_all exact rfl) ?_ | with_reducible refine at_natm8 (by omega) (fun x hx hu => ?_) | with_reducible refine at_nat8 (by omega) (fun x hx hu => ?_) | with_reducible refine at_bi8 (by omega) (fun x hx hu => ?_) | with_reducible refine at_natm (by omega) (fun x hx => ?_) | with_reducible refine at_intm (by omega) (fun x hx => ?_) | with_reducible refine at_nat (by omega) (fun x hx => ?_) | with_reducible refine at_bi (by omega) (fun x hx => ?_) | with_reducible refine And.intro (by first | omega | (dsimp only; omega) | (with_unfolding_all exact Nat.le_of_ble_eq_true rfl) | (simp only [List.length_append, List.length_cons, List.length_nil, List.length_map, chunk_length]; omega)) ?_ | with_reducible refine cond_tt (by first | exact rfl | exact (ble_tt (by first | omega | (dsimp only; omega))) | exact (blt_tt (by first | omega | (dsimp only; omega))) | exact band_tt rfl rfl | exact band_tt rfl (ble_tt (by first | omega | (dsimp only; omega))) | exact band_tt rfl (blt_tt (by first | omega | (dsimp only; omega))) | exact band_tt (ble_tt (by first | omega | (dsimp only; omega))) rfl | exact band_tt (ble_tt (by first | omega | (dsimp only; omega))) (ble_tt (by first | omega | (dsimp only; omega))) | exact band_tt (ble_tt (by first | omega | (dsimp only; omega))) (blt_tt (by first | omega | (dsimp only; omega))) | exact band_tt (blt_tt (by first | omega | (dsimp only; omega))) rfl | exact band_tt (blt_tt (by first | omega | (dsimp only; omega))) (ble_tt (by first | omega | (dsimp only; omega))) | exact band_tt (blt_tt (by first | omega | (dsimp only; omega))) (blt_tt (by first | omega | (dsimp only; omega)))) ?_ | with_reducible refine Both.mk ?_ ?_ | with_reducible refine NilS.ts ?_ | with_reducible refine LetE.now ?_ | with_reducible refine at_some (by with_unfolding_all exact rfl) ?_ | with_reducible refine Spl.yes (by decide +kernel) ?_ | with_reducible refine Spl.no (by decide +kernel) ?_ | with_reducible refine Spl.yes (by (first | with_reducible assumption | with_unfolding_all exact rfl | exact dtt (by omega) | exact ett (by omega) | exact ntt (by omega) | exact seq_tt (by with_unfolding_all assumption) | exact sne_tt (by with_unfolding_all assumption))) ?_ | with_reducible refine Spl.no (by (first | with_reducible assumption | with_unfolding_all exact rfl | exact dff (by omega) | exact eff (by omega) | exact nff (by omega) | exact seq_ff (by with_unfolding_all assumption) | exact sne_ff (by with_unfolding_all assumption))) ?_ | with_reducible refine Spl.pd (fun h => ?_) (fun h => ?_) | with_reducible refine Spl.peq (fun h => ?_) (fun h => ?_) | with_reducible refine Spl.pne (fun h => ?_) (fun h => ?_) | with_reducible refine Spl.seq (fun h => ?_) (fun h => ?_) | with_reducible refine Spl.sne (fun h => ?_) (fun h => ?_) | with_reducible refine Spl.nt ?_ | with_reducible refine Spl.mk (fun h => ?_) (fun h => ?_)))
    rfl
end Go.Proofs.YtkcpcjhjemedpaaDoor

namespace Go.Proofs.YtkcpcjhjemedpaaDoor
open Go.Sy
set_option maxRecDepth 100000
set_option linter.all false
def trimR (s : List UInt8) : List UInt8 := (s.reverse.dropWhile signB).reverse
def trimS (s : List UInt8) : List UInt8 := (trimR s).dropWhile signB
theorem tab_get (c : UInt8) : ((tabS signs).map AV.d).getD c.toNat .junk = .d (.bl (signB c)) := by
  have : ∀ n, n < 256 → (signs.any fun c => c.toNat == n) = decide (97 ≤ n ∧ n ≤ 122 ∨ 48 ≤ n ∧ n ≤ 57 ∨ n = 46 ∨ n = 95) := by decide +kernel
  have hc := c.toNat_lt
  rw [List.getD, List.getElem?_eq_getElem (by simp [tabS]; omega)]
  simp only [tabS, List.getElem_map, List.getElem_range, Option.getD_some, signB]
  rw [this _ (by omega)]
theorem tab_ld {tab : List D} (ht : tab = tabS signs) (off : Nat) (c : UInt8) (h : off = c.toNat) : ldA ⟨.bool, 1, 1, [.bl false], some [.bl false], []⟩ off (List.map AV.d tab) = .d (.bl (signB c)) := by
  subst h ht
  have := tab_get c
  simpa [ldA, Kd.agg] using this
theorem trimR_0 {s t : List UInt8} (h : s = [] ++ t) (ht : t.all signB = true) : trimR s = [] := by
  subst h
  have key : ∀ l : List UInt8, l.all signB = true → l.dropWhile signB = [] := by
    intro l
    induction l with
    | nil => intro _; rfl
    | cons a l ih =>
      intro h
      rw [List.all_cons, Bool.and_eq_true] at h
      rw [List.dropWhile_cons_of_pos h.1, ih h.2]
  rw [trimR, List.reverse_eq_nil_iff]
  exact key _ (by rw [List.all_reverse]; simpa using ht)
theorem trimR_1 {s r t : List UInt8} {c : UInt8} (h : s = (r ++ [c]) ++ t) (ht : t.all signB = true) (hc : signB c = false) : trimR s = r ++ [c] := by
  subst h
  have e : ((r ++ [c]) ++ t).reverse = t.reverse ++ c :: r.reverse := by simp
  rw [trimR, e, List.dropWhile_append_of_pos (fun x hx => List.all_eq_true.1 ht x (List.mem_reverse.1 hx)), List.dropWhile_cons_of_neg (by simp [hc])]
  simp
theorem last_split {r : List UInt8} {x : UInt8} (h : r[r.length - 1]? = some x) : r = r.take (r.length - 1) ++ [x] := by
  have hl : r.length - 1 < r.length := by
    obtain ⟨hk, _⟩ := List.getElem?_eq_some_iff.1 h
    exact hk
  rw [← take_snoc h, show r.length - 1 + 1 = r.length by omega, List.take_length]
theorem cons_drop {u : List UInt8} {x : UInt8} (h : u[(0 : Int).toNat]? = some x) : u = [x] ++ u.drop 1 := by
  cases u with
  | nil => cases h
  | cons a u => obtain rfl : a = x := Option.some.inj h; rfl
theorem dropW_1 {r t u : List UInt8} {x : UInt8} (h : r = t ++ u) (ht : t.all signB = true) (hx : u[(0 : Int).toNat]? = some x) (hc : signB x = false) : r.dropWhile signB = u := by
  rw [h, List.dropWhile_append_of_pos (fun x hx => List.all_eq_true.1 ht x hx), cons_drop hx]
  exact List.dropWhile_cons_of_neg (by simp [hc])
theorem dropW_0 {r t u : List UInt8} (h : r = t ++ u) (ht : t.all signB = true) (hu : u.length = 0) : r.dropWhile signB = u := by
  obtain rfl := List.length_eq_zero_iff.1 hu
  rw [h, List.dropWhile_append_of_pos (fun x hx => List.all_eq_true.1 ht x hx)]; rfl
theorem trim_ok (s : List UInt8) (h0 : s ≠ []) (hs : s.length ≤ 1000000) : FnC Tryd.prog 47 [.d (.st s), .d (.st signs)] (.d (.st (trimS s))) := by
  refine FnC.intro ti_ok Tryd.func47 rfl Tryd.ntmps47 Tryd.call47 rfl (Nat.le_of_ble_eq_true rfl) rfl ?_
  obtain ⟨tab, ht⟩ : ∃ t, t = tabS signs := ⟨_, rfl⟩
  have hm := makeSet_ok
  rw [← ht] at hm
  (repeat' ((conv => whnf); first | with_reducible refine Spl.tt ?_ | with_reducible refine Spl.ff ?_ | with_reducible refine CallE.con ⟨_, hm, ?_⟩ | with_reducible refine CallI.inl ti_ok i65 rfl ?_ | with_reducible refine draw_auto ti_ok mixed (by decide +kernel) ?_ | with_reducible refine LetI.i64 (by first | omega | (with_unfolding_all exact Nat.le_of_ble_eq_true rfl) | (simp only [List.length_append, List.length_cons, List.length_nil, List.length_map, chunk_length]; omega)) ?_ | with_reducible refine LetI.u64 (by omega) ?_ | with_reducible refine LetI.u8 (by omega) ?_ | with_reducible refine LetI.i64q (by omega) ?_ | with_reducible refine LetI.u64q (by omega) ?_ | with_reducible refine LetI.rem (by omega) ?_ | with_reducible refine LetN.mk ?_ | with_reducible refine at_hm (by assumption) ?_ | with_reducible refine at_hb (by assumption) ?_ | with_reducible refine at_lit (by simp only [List.length_map, List.length_cons, List.length_nil]; omega) (by with_unfolding_all exact rfl) ?_ | with_reducible refine at_natm8 (by omega) (fun x hx hu => ?_) | with_reducible refine at_nat8 (by omega) (fun x hx hu => ?_) | with_reducible refine at_bi8 (by omega) (fun x hx hu => ?_) | with_reducible refine at_natm (by omega) (fun x hx => ?_) | with_reducible refine at_intm (by omega) (fun x hx => ?_) | with_reducible refine at_nat (by omega) (fun x hx => ?_) | with_reducible refine at_bi (by omega) (fun x hx => ?_) | with_reducible refine And.intro (by first | omega | (dsimp only; omega) | (with_unfolding_all exact Nat.le_of_ble_eq_true rfl) | (simp only [List.length_append, List.length_cons, List.length_nil, List.length_map, chunk_length]; omega)) ?_ | with_reducible refine cond_tt (by first | exact rfl | exact (ble_tt (by first | omega | (dsimp only; omega))) | exact (blt_tt (by first | omega | (dsimp only; omega))) | exact band_tt rfl rfl | exact band_tt rfl (ble_tt (by first | omega | (dsimp only; omega))) | exact band_tt rfl (blt_tt (by first | omega | (dsimp only; omega))) | exact band_tt (ble_tt (by first | omega | (dsimp only; omega))) rfl | exact band_tt (ble_tt (by first | omega | (dsimp only; omega))) (ble_tt (by first | omega | (dsimp only; omega))) | exact band_tt (ble_tt (by first | omega | (dsimp only; omega))) (blt_tt (by first | omega | (dsimp only; omega))) | exact band_tt (blt_tt (by first | omega | (dsimp only; omega))) rfl | exact band_tt (blt_tt (by first | omega | (dsimp only; omega))) (ble_tt (by first | omega | (dsimp only; omega))) | exact band_tt (blt_tt (by first | omega | (dsimp only; omega))) (blt_tt (by first | omega | (dsimp only; omega)))) ?_ | with_reducible refine Both.mk ?_ ?_ | with_reducible refine NilS.ts ?_ | with_reducible refine LetE.now ?_ | with_reducible refine at_some (by with_unfolding_all exact rfl) ?_ | with_reducible refine Spl.yes (by decide +kernel) ?_ | with_reducible refine Spl.no (by decide +kernel) ?_ | with_reducible refine Spl.yes (by (first | with_reducible assumption | with_unfolding_all exact rfl | exact dtt (by omega) | exact ett (by omega) | exact ntt (by omega) | exact seq_tt (by with_unfolding_all assumption) | exact sne_tt (by with_unfolding_all assumption))) ?_ | with_reducible refine Spl.no (by (first | with_reducible assumption | with_unfolding_all exact rfl | exact dff (by omega) | exact eff (by omega) | exact nff (by omega) | exact seq_ff (by with_unfolding_all assumption) | exact sne_ff (by with_unfolding_all assumption))) ?_ | with_reducible refine Spl.pd (fun h => ?_) (fun h => ?_) | with_reducible refine Spl.peq (fun h => ?_) (fun h => ?_) | with_reducible refine Spl.pne (fun h => ?_) (fun h => ?_) | with_reducible refine Spl.seq (fun h => ?_) (fun h => ?_) | with_reducible refine Spl.sne (fun h => ?_) (fun h => ?_) | with_reducible refine Spl.nt ?_ | with_reducible refine Spl.mk (fun h => ?_) (fun h => ?_)))
  refine loop_mem ti_ok (fun r : List UInt8 => ∃ t, s = r ++ t ∧ t.all signB = true) (fun r => [(0, .d (.st r)), (1, .ptr 0 0)]) (fun _ => [(0, .cells 256 (tab.map .d))]) [0] (fun r => r.length) s ⟨[], by simp, rfl⟩ ⟨rfl, rfl, trivial⟩ ⟨cells_eq rfl (by rw [show List.drop (0 + 256) _ = [] from rfl, List.append_nil]; rfl), entL_nub _ _⟩ rfl (by simp only [List.all_cons, List.all_nil, Ob.lt, all_d]; rfl) ?_
  intro r ⟨t, hr, ha⟩
  have hrl : r.length + t.length = s.length := by rw [hr, List.length_append]
  (repeat' ((conv => whnf); first | with_reducible refine Spl.tt ?_ | with_reducible refine Spl.ff ?_ | with_reducible refine CallI.inl ti_ok i75 rfl ?_ | with_reducible refine AtA.eq (by with_unfolding_all exact tab_ld ht _ x (by first | omega | (dsimp only; omega) | simp)) ?_ | with_reducible refine draw_auto ti_ok mixed (by decide +kernel) ?_ | with_reducible refine LetI.i64 (by first | omega | (with_unfolding_all exact Nat.le_of_ble_eq_true rfl) | (simp only [List.length_append, List.length_cons, List.length_nil, List.length_map, chunk_length]; omega)) ?_ | with_reducible refine LetI.u64 (by omega) ?_ | with_reducible refine LetI.u8 (by omega) ?_ | with_reducible refine LetI.i64q (by omega) ?_ | with_reducible refine LetI.u64q (by omega) ?_ | with_reducible refine LetI.rem (by omega) ?_ | with_reducible refine LetN.mk ?_ | with_reducible refine at_hm (by assumption) ?_ | with_reducible refine at_hb (by assumption) ?_ | with_reducible refine at_lit (by simp only [List.length_map, List.length_cons, List.length_nil]; omega) (by with_unfolding_all exact rfl) ?_ | with_reducible refine at_natm8 (by omega) (fun x hx hu => ?_) | with_reducible refine at_nat8 (by omega) (fun x hx hu => ?_) | with_reducible refine at_bi8 (by omega) (fun x hx hu => ?_) | with_reducible refine at_natm (by omega) (fun x hx => ?_) | with_reducible refine at_intm (by omega) (fun x hx => ?_) | with_reducible refine at_nat (by omega) (fun x hx => ?_) | with_reducible refine at_bi (by omega) (fun x hx => ?_) | with_reducible refine And.intro (by first | omega | (dsimp only; omega) | (with_unfolding_all exact Nat.le_of_ble_eq_true rfl) | (simp only [List.length_append, List.length_cons, List.length_nil, List.length_map, chunk_length]; omega)) ?_ | with_reducible refine cond_tt (by first | exact rfl | exact (ble_tt (by first | omega | (dsimp only; omega))) | exact (blt_tt (by first | omega | (dsimp only; omega))) | exact band_tt rfl rfl | exact band_tt rfl (ble_tt (by first | omega | (dsimp only; omega))) | exact band_tt rfl (blt_tt (by first | omega | (dsimp only; omega))) | exact band_tt (ble_tt (by first | omega | (dsimp only; omega))) rfl | exact band_tt (ble_tt (by first | omega | (dsimp only; omega))) (ble_tt (by first | omega | (dsimp only; omega))) | exact band_tt (ble_tt (by first | omega | (dsimp only; omega))) (blt_tt (by first | omega | (dsimp only; omega))) | exact band_tt (blt_tt (by first | omega | (dsimp only; omega))) rfl | exact band_tt (blt_tt (by first | omega | (dsimp only; omega))) (ble_tt (by first | omega | (dsimp only; omega))) | exact band_tt (blt_tt (by first | omega | (dsimp only; omega))) (blt_tt (by first | omega | (dsimp only; omega)))) ?_ | with_reducible refine Both.mk ?_ ?_ | with_reducible refine NilS.ts ?_ | with_reducible refine LetE.now ?_ | with_reducible refine at_some (by with_unfolding_all exact rfl) ?_ | with_reducible refine Spl.yes (by decide +kernel) ?_ | with_reducible refine Spl.no (by decide +kernel) ?_ | with_reducible refine Spl.yes (by (first | with_reducible assumption | with_unfolding_all exact rfl | exact dtt (by omega) | exact ett (by omega) | exact ntt (by omega) | exact seq_tt (by with_unfolding_all assumption) | exact sne_tt (by with_unfolding_all assumption))) ?_ | with_reducible refine Spl.no (by (first | with_reducible assumption | with_unfolding_all exact rfl | exact dff (by omega) | exact eff (by omega) | exact nff (by omega) | exact seq_ff (by with_unfolding_all assumption) | exact sne_ff (by with_unfolding_all assumption))) ?_ | with_reducible refine Spl.pd (fun h => ?_) (fun h => ?_) | with_reducible refine Spl.peq (fun h => ?_) (fun h => ?_) | with_reducible refine Spl.pne (fun h => ?_) (fun h => ?_) | with_reducible refine Spl.seq (fun h => ?_) (fun h => ?_) | with_reducible refine Spl.sne (fun h => ?_) (fun h => ?_) | with_reducible refine Spl.nt ?_ | with_reducible refine Spl.mk (fun h => ?_) (fun h => ?_)))
  · rename_i hx0
    have hx' : r[r.length - 1]? = some x := by rw [show r.length - 1 = ((r.length : Int) - 1).toNat by omega]; exact hx
    have hsp := last_split hx'
    refine againM (r.take (r.length - 1)) ⟨[x] ++ t, by rw [← List.append_assoc, ← hsp]; exact hr, by rw [List.all_append, ha, Bool.and_true]; simpa using h⟩ (by dsimp only; rw [List.length_take]; omega) (And.intro (st_eq ?_) (And.intro rfl trivial)) (And.intro rfl ?_) rfl (by simp only [List.all_cons, List.all_nil, Ob.lt, all_d]; rfl)
    · rw [show ((r.length : Int) - 1).toNat = r.length - 1 by omega]
    · (repeat (first | exact trivial | refine And.intro rfl ?_))
  · have hx' : r[r.length - 1]? = some x := by rw [show r.length - 1 = ((r.length : Int) - 1).toNat by omega]; exact hx
    have hsp := last_split hx'
    have h2 := hr
    rw [hsp] at h2
    have hw : trimS s = r.dropWhile signB := by rw [trimS, trimR_1 h2 ha (by simpa using h), ← hsp]
    (repeat' ((conv => whnf); first | with_reducible refine Spl.tt ?_ | with_reducible refine Spl.ff ?_ | with_reducible refine CallI.inl ti_ok i64 rfl ?_ | with_reducible refine draw_auto ti_ok mixed (by decide +kernel) ?_ | with_reducible refine LetI.i64 (by first | omega | (with_unfolding_all exact Nat.le_of_ble_eq_true rfl) | (simp only [List.length_append, List.length_cons, List.length_nil, List.length_map, chunk_length]; omega)) ?_ | with_reducible refine LetI.u64 (by omega) ?_ | with_reducible refine LetI.u8 (by omega) ?_ | with_reducible refine LetI.i64q (by omega) ?_ | with_reducible refine LetI.u64q (by omega) ?_ | with_reducible refine LetI.rem (by omega) ?_ | with_reducible refine LetN.mk ?_ | with_reducible refine at_hm (by assumption) ?_ | with_reducible refine at_hb (by assumption) ?_ | with_reducible refine at_lit (by simp only [List.length_map, List.length_cons, List.length_nil]; omega) (by with_unfolding_all exact rfl) ?_ | with_reducible refine at_natm8 (by omega) (fun x hx hu => ?_) | with_reducible refine at_nat8 (by omega) (fun x hx hu => ?_) | with_reducible refine at_bi8 (by omega) (fun x hx hu => ?_) | with_reducible refine at_natm (by omega) (fun x hx => ?_) | with_reducible refine at_intm (by omega) (fun x hx => ?_) | with_reducible refine at_nat (by omega) (fun x hx => ?_) | with_reducible refine at_bi (by omega) (fun x hx => ?_) | with_reducible refine And.intro (by first | omega | (dsimp only; omega) | (with_unfolding_all exact Nat.le_of_ble_eq_true rfl) | (simp only [List.length_append, List.length_cons, List.length_nil, List.length_map, chunk_length]; omega)) ?_ | with_reducible refine cond_tt (by first | exact rfl | exact (ble_tt (by first | omega | (dsimp only; omega))) | exact (blt_tt (by first | omega | (dsimp only; omega))) | exact band_tt rfl rfl | exact band_tt rfl (ble_tt (by first | omega | (dsimp only; omega))) | exact band_tt rfl (blt_tt (by first | omega | (dsimp only; omega))) | exact band_tt (ble_tt (by first | omega | (dsimp only; omega))) rfl | exact band_tt (ble_tt (by first | omega | (dsimp only; omega))) (ble_tt (by first | omega | (dsimp only; omega))) | exact band_tt (ble_tt (by first | omega | (dsimp only; omega))) (blt_tt (by first | omega | (dsimp only; omega))) | exact band_tt (blt_tt (by first | omega | (dsimp only; omega))) rfl | exact band_tt (blt_tt (by first | omega | (dsimp only; omega))) (ble_tt (by first | omega | (dsimp only; omega))) | exact band_tt (blt_tt (by first | omega | (dsimp only; omega))) (blt_tt (by first | omega | (dsimp only; omega)))) ?_ | with_reducible refine Both.mk ?_ ?_ | with_reducible refine NilS.ts ?_ | with_reducible refine LetE.now ?_ | with_reducible refine at_some (by with_unfolding_all exact rfl) ?_ | with_reducible refine Spl.yes (by decide +kernel) ?_ | with_reducible refine Spl.no (by decide +kernel) ?_ | with_reducible refine Spl.yes (by (first | with_reducible assumption | with_unfolding_all exact rfl | exact dtt (by omega) | exact ett (by omega) | exact ntt (by omega) | exact seq_tt (by with_unfolding_all assumption) | exact sne_tt (by with_unfolding_all assumption))) ?_ | with_reducible refine Spl.no (by (first | with_reducible assumption | with_unfolding_all exact rfl | exact dff (by omega) | exact eff (by omega) | exact nff (by omega) | exact seq_ff (by with_unfolding_all assumption) | exact sne_ff (by with_unfolding_all assumption))) ?_ | with_reducible refine Spl.pd (fun h => ?_) (fun h => ?_) | with_reducible refine Spl.peq (fun h => ?_) (fun h => ?_) | with_reducible refine Spl.pne (fun h => ?_) (fun h => ?_) | with_reducible refine Spl.seq (fun h => ?_) (fun h => ?_) | with_reducible refine Spl.sne (fun h => ?_) (fun h => ?_) | with_reducible refine Spl.nt ?_ | with_reducible refine Spl.mk (fun h => ?_) (fun h => ?_)))
    refine loop_mem ti_ok (fun u : List UInt8 => ∃ t, r = t ++ u ∧ t.all signB = true) (fun u => [(0, .d (.st u)), (1, .ptr 0 0)]) (fun _ => [(0, .cells 256 (tab.map .d))]) [0] (fun u => u.length) r ⟨[], rfl, rfl⟩ ⟨rfl, rfl, trivial⟩ ⟨rfl, entL_nub _ _⟩ rfl (by simp only [List.all_cons, List.all_nil, Ob.lt, all_d]; rfl) ?_
    intro u ⟨t', hu', ha'⟩
    (repeat' ((conv => whnf); first | with_reducible refine Spl.tt ?_ | with_reducible refine Spl.ff ?_ | with_reducible refine CallI.inl ti_ok i75 rfl ?_ | with_reducible refine AtA.eq (by with_unfolding_all exact tab_ld ht _ x (by first | omega | (dsimp only; omega) | simp)) ?_ | with_reducible refine draw_auto ti_ok mixed (by decide +kernel) ?_ | with_reducible refine LetI.i64 (by first | omega | (with_unfolding_all exact Nat.le_of_ble_eq_true rfl) | (simp only [List.length_append, List.length_cons, List.length_nil, List.length_map, chunk_length]; omega)) ?_ | with_reducible refine LetI.u64 (by omega) ?_ | with_reducible refine LetI.u8 (by omega) ?_ | with_reducible refine LetI.i64q (by omega) ?_ | with_reducible refine LetI.u64q (by omega) ?_ | with_reducible refine LetI.rem (by omega) ?_ | with_reducible refine LetN.mk ?_ | with_reducible refine at_hm (by assumption) ?_ | with_reducible refine at_hb (by assumption) ?_ | with_reducible refine at_lit (by simp only [List.length_map, List.length_cons, List.length_nil]; omega) (by with_unfolding_all exact rfl) ?_ | with_reducible refine at_natm8 (by omega) (fun x hx hu => ?_) | with_reducible refine at_nat8 (by omega) (fun x hx hu => ?_) | with_reducible refine at_bi8 (by omega) (fun x hx hu => ?_) | with_reducible refine at_natm (by omega) (fun x hx => ?_) | with_reducible refine at_intm (by omega) (fun x hx => ?_) | with_reducible refine at_nat (by omega) (fun x hx => ?_) | with_reducible refine at_bi (by omega) (fun x hx => ?_) | with_reducible refine And.intro (by first | omega | (dsimp only; omega) | (with_unfolding_all exact Nat.le_of_ble_eq_true rfl) | (simp only [List.length_append, List.length_cons, List.length_nil, List.length_map, chunk_length]; omega)) ?_ | with_reducible refine cond_tt (by first | exact rfl | exact (ble_tt (by first | omega | (dsimp only; omega))) | exact (blt_tt (by first | omega | (dsimp only; omega))) | exact band_tt rfl rfl | exact band_tt rfl (ble_tt (by first | omega | (dsimp only; omega))) | exact band_tt rfl (blt_tt (by first | omega | (dsimp only; omega))) | exact band_tt (ble_tt (by first | omega | (dsimp only; omega))) rfl | exact band_tt (ble_tt (by first | omega | (dsimp only; omega))) (ble_tt (by first | omega | (dsimp only; omega))) | exact band_tt (ble_tt (by first | omega | (dsimp only; omega))) (blt_tt (by first | omega | (dsimp only; omega))) | exact band_tt (blt_tt (by first | omega | (dsimp only; omega))) rfl | exact band_tt (blt_tt (by first | omega | (dsimp only; omega))) (ble_tt (by first | omega | (dsimp only; omega))) | exact band_tt (blt_tt (by first | omega | (dsimp only; omega))) (blt_tt (by first | omega | (dsimp only; omega)))) ?_ | with_reducible refine Both.mk ?_ ?_ | with_reducible refine NilS.ts ?_ | with_reducible refine LetE.now ?_ | with_reducible refine at_some (by with_unfolding_all exact rfl) ?_ | with_reducible refine Spl.yes (by decide +kernel) ?_ | with_reducible refine Spl.no (by decide +kernel) ?_ | with_reducible refine Spl.yes (by (first | with_reducible assumption | with_unfolding_all exact rfl | exact dtt (by omega) | exact ett (by omega) | exact ntt (by omega) | exact seq_tt (by with_unfolding_all assumption) | exact sne_tt (by with_unfolding_all assumption))) ?_ | with_reducible refine Spl.no (by (first | with_reducible assumption | with_unfolding_all exact rfl | exact dff (by omega) | exact eff (by omega) | exact nff (by omega) | exact seq_ff (by with_unfolding_all assumption) | exact sne_ff (by with_unfolding_all assumption))) ?_ | with_reducible refine Spl.pd (fun h => ?_) (fun h => ?_) | with_reducible refine Spl.peq (fun h => ?_) (fun h => ?_) | with_reducible refine Spl.pne (fun h => ?_) (fun h => ?_) | with_reducible refine Spl.seq (fun h => ?_) (fun h => ?_) | with_reducible refine Spl.sne (fun h => ?_) (fun h => ?_) | with_reducible refine Spl.nt ?_ | with_reducible refine Spl.mk (fun h => ?_) (fun h => ?_)))
    · refine againM (u.drop 1) ⟨t' ++ [x], ?_, ?_⟩ (by dsimp only; rw [List.length_drop]; omega) (And.intro (st_eq ?_) (And.intro rfl trivial)) (And.intro rfl ?_) rfl (by simp only [List.all_cons, List.all_nil, Ob.lt, all_d]; rfl)
      · rw [List.append_assoc, hu']; congr 1; exact cons_drop hx
      · rw [List.all_append, ha', Bool.true_and]; simpa using h
      · simp
      · (repeat (first | exact trivial | refine And.intro rfl ?_))
    · exact st_eq (hw.trans (dropW_1 hu' ha' hx (by simpa using h))).symm
    · exact st_eq (hw.trans (dropW_0 hu' ha' (by omega))).symm
  · have hw : trimS s = r.dropWhile signB := by
      have hr0 : r = [] := List.length_eq_zero_iff.1 (by omega)
      rw [hr0] at hr
      rw [trimS, trimR_0 hr ha, hr0]
    (repeat' ((conv => whnf); first | with_reducible refine Spl.tt ?_ | with_reducible refine Spl.ff ?_ | with_reducible refine CallI.inl ti_ok i64 rfl ?_ | with_reducible refine draw_auto ti_ok mixed (by decide +kernel) ?_ | with_reducible refine LetI.i64 (by first | omega | (with_unfolding_all exact Nat.le_of_ble_eq_true rfl) | (simp only [List.length_append, List.length_cons, List.length_nil, List.length_map, chunk_length]; omega)) ?_ | with_reducible refine LetI.u64 (by omega) ?_ | with_reducible refine LetI.u8 (by omega) ?_ | with_reducible refine LetI.i64q (by omega) ?_ | with_reducible refine LetI.u64q (by omega) ?_ | with_reducible refine LetI.rem (by omega) ?_ | with_reducible refine LetN.mk ?_ | with_reducible refine at_hm (by assumption) ?_ | with_reducible refine at_hb (by assumption) ?_ | with_reducible refine at_lit (by simp only [List.length_map, List.length_cons, List.length_nil]; omega) (by with_unfolding_all exact rfl) ?_ | with_reducible refine at_natm8 (by omega) (fun x hx hu => ?_) | with_reducible refine at_nat8 (by omega) (fun x hx hu => ?_) | with_reducible refine at_bi8 (by omega) (fun x hx hu => ?_) | with_reducible refine at_natm (by omega) (fun x hx => ?_) | with_reducible refine at_intm (by omega) (fun x hx => ?_) | with_reducible refine at_nat (by omega) (fun x hx => ?_) | with_reducible refine at_bi (by omega) (fun x hx => ?_) | with_reducible refine And.intro (by first | omega | (dsimp only; omega) | (with_unfolding_all exact Nat.le_of_ble_eq_true rfl) | (simp only [List.length_append, List.length_cons, List.length_nil, List.length_map, chunk_length]; omega)) ?_ | with_reducible refine cond_tt (by first | exact rfl | exact (ble_tt (by first | omega | (dsimp only; omega))) | exact (blt_tt (by first | omega | (dsimp only; omega))) | exact band_tt rfl rfl | exact band_tt rfl (ble_tt (by first | omega | (dsimp only; omega))) | exact band_tt rfl (blt_tt (by first | omega | (dsimp only; omega))) | exact band_tt (ble_tt (by first | omega | (dsimp only; omega))) rfl | exact band_tt (ble_tt (by first | omega | (dsimp only; omega))) (ble_tt (by first | omega | (dsimp only; omega))) | exact band_tt (ble_tt (by first | omega | (dsimp only; omega))) (blt_tt (by first | omega | (dsimp only; omega))) | exact band_tt (blt_tt (by first | omega | (dsimp only; omega))) rfl | exact band_tt (blt_tt (by first | omega | (dsimp only; omega))) (ble_tt (by first | omega | (dsimp only; omega))) | exact band_tt (blt_tt (by first | omega | (dsimp only; omega))) (blt_tt (by first | omega | (dsimp only; omega)))) ?_ | with_reducible refine Both.mk ?_ ?_ | with_reducible refine NilS.ts ?_ | with_reducible refine LetE.now ?_ | with_reducible refine at_some (by with_unfolding_all exact rfl) ?_ | with_reducible refine Spl.yes (by decide +kernel) ?_ | with_reducible refine Spl.no (by decide +kernel) ?_ | with_reducible refine Spl.yes (by (first | with_reducible assumption | with_unfolding_all exact rfl | exact dtt (by omega) | exact ett (by omega) | exact ntt (by omega) | exact seq_tt (by with_unfolding_all assumption) | exact sne_tt (by with_unfolding_all assumption))) ?_ | with_reducible refine Spl.no (by (first | with_reducible assumption | with_unfolding_all exact rfl | exact dff (by omega) | exact eff (by omega) | exact nff (by omega) | exact seq_ff (by with_unfolding_all assumption) | exact sne_ff (by with_unfolding_all assumption))) ?_ | with_reducible refine Spl.pd (fun h => ?_) (fun h => ?_) | with_reducible refine Spl.peq (fun h => ?_) (fun h => ?_) | with_reducible refine Spl.pne (fun h => ?_) (fun h => ?_) | with_reducible refine Spl.seq (fun h => ?_) (fun h => ?_) | with_reducible refine Spl.sne (fun h => ?_) (fun h => ?_) | with_reducible refine Spl.nt ?_ | with_reducible refine Spl.mk (fun h => ?_) (fun h => ?_)))
    refine loop_mem ti_ok (fun u : List UInt8 => ∃ t, r = t ++ u ∧ t.all signB = true) (fun u => [(0, .d (.st u)), (1, .ptr 0 0)]) (fun _ => [(0, .cells 256 (tab.map .d))]) [0] (fun u => u.length) r ⟨[], rfl, rfl⟩ ⟨rfl, rfl, trivial⟩ ⟨rfl, entL_nub _ _⟩ rfl (by simp only [List.all_cons, List.all_nil, Ob.lt, all_d]; rfl) ?_
    intro u ⟨t', hu', ha'⟩
    (repeat' ((conv => whnf); first | with_reducible refine Spl.tt ?_ | with_reducible refine Spl.ff ?_ | with_reducible refine CallI.inl ti_ok i75 rfl ?_ | with_reducible refine AtA.eq (by with_unfolding_all exact tab_ld ht _ x (by first | omega | (dsimp only; omega) | simp)) ?_ | with_reducible refine draw_auto ti_ok mixed (by decide +kernel) ?_ | with_reducible refine LetI.i64 (by first | omega | (with_unfolding_all exact Nat.le_of_ble_eq_true rfl) | (simp only [List.length_append, List.length_cons, List.length_nil, List.length_map, chunk_length]; omega)) ?_ | with_reducible refine LetI.u64 (by omega) ?_ | with_reducible refine LetI.u8 (by omega) ?_ | with_reducible refine LetI.i64q (by omega) ?_ | with_reducible refine LetI.u64q (by omega) ?_ | with_reducible refine LetI.rem (by omega) ?_ | with_reducible refine LetN.mk ?_ | with_reducible refine at_hm (by assumption) ?_ | with_reducible refine at_hb (by assumption) ?_ | with_reducible refine at_lit (by simp only [List.length_map, List.length_cons, List.length_nil]; omega) (by with_unfolding_all exact rfl) ?_ | with_reducible refine at_natm8 (by omega) (fun x hx hu => ?_) | with_reducible refine at_nat8 (by omega) (fun x hx hu => ?_) | with_reducible refine at_bi8 (by omega) (fun x hx hu => ?_) | with_reducible refine at_natm (by omega) (fun x hx => ?_) | with_reducible refine at_intm (by omega) (fun x hx => ?_) | with_reducible refine at_nat (by omega) (fun x hx => ?_) | with_reducible refine at_bi (by omega) (fun x hx => ?_) | with_reducible refine And.intro (by first | omega | (dsimp only; omega) | (with_unfolding_all exact Nat.le_of_ble_eq_true rfl) | (simp only [List.length_append, List.length_cons, List.length_nil, List.length_map, chunk_length]; omega)) ?_ | with_reducible refine cond_tt (by first | exact rfl | exact (ble_tt (by first | omega | (dsimp only; omega))) | exact (blt_tt (by first | omega | (dsimp only; omega))) | exact band_tt rfl rfl | exact band_tt rfl (ble_tt (by first | omega | (dsimp only; omega))) | exact band_tt rfl (blt_tt (by first | omega | (dsimp only; omega))) | exact band_tt (ble_tt (by first | omega | (dsimp only; omega))) rfl | exact band_tt (ble_tt (by first | omega | (dsimp only; omega))) (ble_tt (by first | omega | (dsimp only; omega))) | exact band_tt (ble_tt (by first | omega | (dsimp only; omega))) (blt_tt (by first | omega | (dsimp only; omega))) | exact band_tt (blt_tt (by first | omega | (dsimp only; omega))) rfl | exact band_tt (blt_tt (by first | omega | (dsimp only; omega))) (ble_tt (by first | omega | (dsimp only; omega))) | exact band_tt (blt_tt (by first | omega | (dsimp only; omega))) (blt_tt (by first | omega | (dsimp only; omega)))) ?_ | with_reducible refine Both.mk ?_ ?_ | with_reducible refine NilS.ts ?_ | with_reducible refine LetE.now ?_ | with_reducible refine at_some (by with_unfolding_all exact rfl) ?_ | with_reducible refine Spl.yes (by decide +kernel) ?_ | with_reducible refine Spl.no (by decide +kernel) ?_ | with_reducible refine Spl.yes (by (first | with_reducible assumption | with_unfolding_all exact rfl | exact dtt (by omega) | exact ett (by omega) | exact ntt (by omega) | exact seq_tt (by with_unfolding_all assumption) | exact sne_tt (by with_unfolding_all assumption))) ?_ | with_reducible refine Spl.no (by (first | with_reducible assumption | with_unfolding_all exact rfl | exact dff (by omega) | exact eff (by omega) | exact nff (by omega) | exact seq_ff (by with_unfolding_all assumption) | exact sne_ff (by with_unfolding_all assumption))) ?_ | with_reducible refine Spl.pd (fun h => ?_) (fun h => ?_) | with_reducible refine Spl.peq (fun h => ?_) (fun h => ?_) | with_reducible refine Spl.pne (fun h => ?_) (fun h => ?_) | with_reducible refine Spl.seq (fun h => ?_) (fun h => ?_) | with_reducible refine Spl.sne (fun h => ?_) (fun h => ?_) | with_reducible refine Spl.nt ?_ | with_reducible refine Spl.mk (fun h => ?_) (fun h => ?_)))
    · refine againM (u.drop 1) ⟨t' ++ [x], ?_, ?_⟩ (by dsimp only; rw [List.length_drop]; omega) (And.intro (st_eq ?_) (And.intro rfl trivial)) (And.intro rfl ?_) rfl (by simp only [List.all_cons, List.all_nil, Ob.lt, all_d]; rfl)
      · rw [List.append_assoc, hu']; congr 1; exact cons_drop hx
      · rw [List.all_append, ha', Bool.true_and]; simpa using h
      · simp
      · (repeat (first | exact trivial | refine And.intro rfl ?_))
    · exact st_eq (hw.trans (dropW_1 hu' ha' hx (by simpa using h))).symm
    · exact st_eq (hw.trans (dropW_0 hu' ha' (by omega))).symm
end Go.Proofs.YtkcpcjhjemedpaaDoor

/-
  DERIVED: THE SHELF's CONTRACTS AT THIS DUMP, IN PLAIN WORDS (tools/lay-plain.mjs out of 'TrydShelf.lean', which tools/lay-shelf.mjs wrote): THE SAME DECLARATIONS UNDER THE SAME NAMES: 'import', 'namespace', 'open', 'def', 'theorem' AND NOTHING ELSE: no command of the shelf's: FOR A HAND-IN. Each laying: the table of numbers ('.._ren') and one theorem, a field a fact of the dump's own or the kernel's comparison; each contract: ONE APPLICATION.
-/
namespace Go.Proofs
open Go.Shelf
def Tryd.lays169_ren : Go.Shelf.Ren := ⟨fun | 169 => 21 | n => n, fun | 70 => 46 | 9 => 9 | 0 => 0 | 72 => 49 | 37 => 47 | 127 => 67 | 3 => 3 | 5 => 5 | n => n, fun | n => n⟩
theorem Tryd.lays169 : Go.Proofs.Lays.n169 Tryd.prog Tryd.lays169_ren := {
  mixed := by kernel_rfl
  f169 := Tryd.func21.trans (congrArg some (by kernel_rfl))
  t0 := Tryd.underlying0
  a0 := Tryd.isAgg0
  z0 := Tryd.sizeOf0
  v0 := Tryd.zeroValue0
  t3 := Tryd.underlying3
  a3 := Tryd.isAgg3
  z3 := Tryd.sizeOf3
  v3 := Tryd.zeroValue3
  t9 := Tryd.underlying9
  a9 := Tryd.isAgg9
  z9 := Tryd.sizeOf9
  v9 := Tryd.zeroValue9
  t37 := Tryd.underlying47
  a37 := Tryd.isAgg47
  z37 := Tryd.sizeOf47
  v37 := Tryd.zeroValue47
  t70 := Tryd.underlying46
  a70 := Tryd.isAgg46
  z70 := Tryd.sizeOf46
  v70 := Tryd.zeroValue46
  t72 := Tryd.underlying49
  a72 := Tryd.isAgg49
  z72 := Tryd.sizeOf49
  v72 := Tryd.zeroValue49
  t127 := Tryd.underlying67
  a127 := Tryd.isAgg67
  z127 := Tryd.sizeOf67
  v127 := Tryd.zeroValue67 }
theorem Tryd.Builder_Extra_169 : Builder.Extra Tryd.prog Tryd.lays169_ren := {
  sizeBuilder := by kernel_rfl
  liesBuilder := by kernel_rfl
  t5 := Tryd.underlying5
  a5 := Tryd.isAgg5
  z5 := Tryd.sizeOf5
  v5 := Tryd.zeroValue5
  infoByte := by kernel_rfl
  cellsByte := by kernel_rfl
  sizeByte := by kernel_rfl
  neB5 := by decide }
open Go.RowKit in
/-- (*strings.Builder).String: "String returns the accumulated string.": OF A BUILDER THAT HOLDS AT LEAST ONE BYTE. ✋ THE MODEL FREEZES THOSE BYTES IN THE BUFFER (unsafe.String): a later write INTO them ends the model's run without an answer; a later append BEHIND them goes on. The statement's order of evaluation is drawn: one draw. (LAID: no walk: one application.) -/
theorem Tryd.Builder_String (B b : Nat) (l : List UInt8) (w : World) (h : Lib.IsBuilder 49 5 B b (Lib.byteCells l) w) (h0 : l ≠ []) :
    Calls Tryd.prog 21 #[.pointer (some ⟨b, 0, none⟩)] w fun e w' => e = .returned (.string ⟨l.toArray⟩) ∧ Below B w w' := Any.Builder_String Tryd.lays169 Tryd.Builder_Extra_169 B b l w h h0
open Go.RowKit in
/-- (*strings.Builder).String OF A BUILDER THAT HOLDS NO BYTE: the empty string. (Its buffer is nil, or a row of which it has taken nothing yet; where that row has NO capacity the model lays one new block for unsafe.SliceData's 'some address'.) One draw. (LAID: no walk: one application.) -/
theorem Tryd.Builder_String_empty (B b : Nat) (w : World) (h : Lib.IsBuilder 49 5 B b [] w) (hBw : B ≤ w.heap.size) :
    Calls Tryd.prog 21 #[.pointer (some ⟨b, 0, none⟩)] w fun e w' => e = .returned (.string ⟨#[]⟩) ∧ Below B w w' := Any.Builder_String_empty Tryd.lays169 Tryd.Builder_Extra_169 B b w h hBw
open Go.RowKit in
/-- (*strings.Builder).String: "String returns the accumulated string.": WHATEVER THE BUILDER HOLDS. (LAID: no walk: one application.) -/
theorem Tryd.Builder_String_any (B b : Nat) (l : List UInt8) (w : World) (h : Lib.IsBuilder 49 5 B b (Lib.byteCells l) w) (hBw : B ≤ w.heap.size) :
    Calls Tryd.prog 21 #[.pointer (some ⟨b, 0, none⟩)] w fun e w' => e = .returned (.string ⟨l.toArray⟩) ∧ Below B w w' := Any.Builder_String_any Tryd.lays169 Tryd.Builder_Extra_169 B b l w h hBw
def Tryd.lays241_ren : Go.Shelf.Ren := ⟨fun | 241 => 43 | 277 => 56 | n => n, fun | 70 => 46 | 3 => 3 | 0 => 0 | 72 => 49 | 37 => 47 | 5 => 5 | n => n, fun | n => n⟩
theorem Tryd.lays241 : Go.Proofs.Lays.n241 Tryd.prog Tryd.lays241_ren := {
  mixed := by kernel_rfl
  f241 := Tryd.func43.trans (congrArg some (by kernel_rfl))
  f277 := Tryd.func56.trans (congrArg some (by kernel_rfl))
  t0 := Tryd.underlying0
  a0 := Tryd.isAgg0
  z0 := Tryd.sizeOf0
  v0 := Tryd.zeroValue0
  t3 := Tryd.underlying3
  a3 := Tryd.isAgg3
  z3 := Tryd.sizeOf3
  v3 := Tryd.zeroValue3
  t37 := Tryd.underlying47
  a37 := Tryd.isAgg47
  z37 := Tryd.sizeOf47
  v37 := Tryd.zeroValue47
  t70 := Tryd.underlying46
  a70 := Tryd.isAgg46
  z70 := Tryd.sizeOf46
  v70 := Tryd.zeroValue46
  t72 := Tryd.underlying49
  a72 := Tryd.isAgg49
  z72 := Tryd.sizeOf49
  v72 := Tryd.zeroValue49 }
theorem Tryd.Builder_Extra_241 : Builder.Extra Tryd.prog Tryd.lays241_ren := {
  sizeBuilder := by kernel_rfl
  liesBuilder := by kernel_rfl
  t5 := Tryd.underlying5
  a5 := Tryd.isAgg5
  z5 := Tryd.sizeOf5
  v5 := Tryd.zeroValue5
  infoByte := by kernel_rfl
  cellsByte := by kernel_rfl
  sizeByte := by kernel_rfl
  neB5 := by decide }
open Go.RowKit in
/-- (*strings.Builder).grow (no doc but "grow copies the buffer to a new, larger buffer so that there are at least n bytes of capacity beyond len(b.buf)."): AT A BUILDER WITHOUT A BUFFER: a new row of whatever bytes for its buffer, none of them its own yet. Three draws. (LAID: no walk: one application.) -/
theorem Tryd.Builder_grow_fresh (B b n : Nat) (w : World) (hB : B ≤ b) (hbk : w.heap[b]? = some (.cells #[.pointer (some ⟨b, 0, none⟩), .slice none 0 0] 49 (0, 0))) (hBw : B ≤ w.heap.size) (hn : n ≤ 281474976710656) :
    Calls Tryd.prog 43 #[.pointer (some ⟨b, 0, none⟩), .int .i64 n] w fun e w' => e = .returned (.tuple #[]) ∧ (Lib.BuilderAt 49 5 B b (.pointer (some ⟨b, 0, none⟩)) [] w' ∧ Below B w w') := Any.Builder_grow_fresh Tryd.lays241 Tryd.Builder_Extra_241 B b n w hB hbk hBw hn
def Tryd.lays165_ren : Go.Shelf.Ren := ⟨fun | 165 => 29 | 240 => 28 | 241 => 43 | 276 => 42 | 277 => 56 | n => n, fun | 70 => 46 | 3 => 3 | 0 => 0 | 4 => 4 | 9 => 9 | 20 => 20 | 72 => 49 | 37 => 47 | 164 => 78 | 5 => 5 | n => n, fun | n => n⟩
theorem Tryd.lays165 : Go.Proofs.Lays.n165 Tryd.prog Tryd.lays165_ren := {
  mixed := by kernel_rfl
  f165 := Tryd.func29.trans (congrArg some (by kernel_rfl))
  f240 := Tryd.func28.trans (congrArg some (by kernel_rfl))
  f241 := Tryd.func43.trans (congrArg some (by kernel_rfl))
  f276 := Tryd.func42.trans (congrArg some (by kernel_rfl))
  f277 := Tryd.func56.trans (congrArg some (by kernel_rfl))
  t0 := Tryd.underlying0
  a0 := Tryd.isAgg0
  z0 := Tryd.sizeOf0
  v0 := Tryd.zeroValue0
  t3 := Tryd.underlying3
  a3 := Tryd.isAgg3
  z3 := Tryd.sizeOf3
  v3 := Tryd.zeroValue3
  t4 := Tryd.underlying4
  a4 := Tryd.isAgg4
  z4 := Tryd.sizeOf4
  v4 := Tryd.zeroValue4
  t9 := Tryd.underlying9
  a9 := Tryd.isAgg9
  z9 := Tryd.sizeOf9
  v9 := Tryd.zeroValue9
  t20 := Tryd.underlying20
  a20 := Tryd.isAgg20
  z20 := Tryd.sizeOf20
  v20 := Tryd.zeroValue20
  t37 := Tryd.underlying47
  a37 := Tryd.isAgg47
  z37 := Tryd.sizeOf47
  v37 := Tryd.zeroValue47
  t70 := Tryd.underlying46
  a70 := Tryd.isAgg46
  z70 := Tryd.sizeOf46
  v70 := Tryd.zeroValue46
  t72 := Tryd.underlying49
  a72 := Tryd.isAgg49
  z72 := Tryd.sizeOf49
  v72 := Tryd.zeroValue49
  t164 := Tryd.underlying78
  a164 := Tryd.isAgg78
  z164 := Tryd.sizeOf78
  v164 := Tryd.zeroValue78 }
theorem Tryd.Builder_Extra_165 : Builder.Extra Tryd.prog Tryd.lays165_ren := {
  sizeBuilder := by kernel_rfl
  liesBuilder := by kernel_rfl
  t5 := Tryd.underlying5
  a5 := Tryd.isAgg5
  z5 := Tryd.sizeOf5
  v5 := Tryd.zeroValue5
  infoByte := by kernel_rfl
  cellsByte := by kernel_rfl
  sizeByte := by kernel_rfl
  neB5 := by decide }
open Go.RowKit in
/-- (*strings.Builder).Grow AT A BUILDER THAT HAS NOT BEEN WRITTEN ('var b strings.Builder; b.Grow(n)'): "Grow grows b's capacity, if necessary, to guarantee space for another n bytes.": it holds no byte behind it as before it. (LAID: no walk: one application.) -/
theorem Tryd.Builder_Grow_fresh (B b n : Nat) (w : World) (hB : B ≤ b) (hbk : w.heap[b]? = some (.cells #[.pointer none, .slice none 0 0] 49 (0, 0))) (hBw : B ≤ w.heap.size) (hn : n ≤ 281474976710656) :
    Calls Tryd.prog 29 #[.pointer (some ⟨b, 0, none⟩), .int .i64 n] w fun e w' => e = .returned (.tuple #[]) ∧ (Lib.BuilderAt 49 5 B b (.pointer (some ⟨b, 0, none⟩)) [] w' ∧ Below B w w') := Any.Builder_Grow_fresh Tryd.lays165 Tryd.Builder_Extra_165 B b n w hB hbk hBw hn
def Tryd.lays156_ren : Go.Shelf.Ren := ⟨fun | 156 => 20 | 165 => 29 | 166 => 19 | 169 => 21 | 240 => 28 | 241 => 43 | 276 => 42 | 277 => 56 | n => n, fun | 31 => 50 | 9 => 9 | 3 => 3 | 4 => 4 | 0 => 0 | 20 => 20 | 72 => 49 | 76 => 53 | 70 => 46 | 37 => 47 | 75 => 52 | 127 => 67 | 164 => 78 | 5 => 5 | 80 => 57 | n => n, fun | n => n⟩
theorem Tryd.lays156 : Go.Proofs.Lays.n156 Tryd.prog Tryd.lays156_ren := {
  mixed := by kernel_rfl
  f156 := Tryd.func20.trans (congrArg some (by kernel_rfl))
  f165 := Tryd.func29.trans (congrArg some (by kernel_rfl))
  f166 := Tryd.func19.trans (congrArg some (by kernel_rfl))
  f169 := Tryd.func21.trans (congrArg some (by kernel_rfl))
  f240 := Tryd.func28.trans (congrArg some (by kernel_rfl))
  f241 := Tryd.func43.trans (congrArg some (by kernel_rfl))
  f276 := Tryd.func42.trans (congrArg some (by kernel_rfl))
  f277 := Tryd.func56.trans (congrArg some (by kernel_rfl))
  t0 := Tryd.underlying0
  a0 := Tryd.isAgg0
  z0 := Tryd.sizeOf0
  v0 := Tryd.zeroValue0
  t3 := Tryd.underlying3
  a3 := Tryd.isAgg3
  z3 := Tryd.sizeOf3
  v3 := Tryd.zeroValue3
  t4 := Tryd.underlying4
  a4 := Tryd.isAgg4
  z4 := Tryd.sizeOf4
  v4 := Tryd.zeroValue4
  t9 := Tryd.underlying9
  a9 := Tryd.isAgg9
  z9 := Tryd.sizeOf9
  v9 := Tryd.zeroValue9
  t20 := Tryd.underlying20
  a20 := Tryd.isAgg20
  z20 := Tryd.sizeOf20
  v20 := Tryd.zeroValue20
  t31 := Tryd.underlying50
  a31 := Tryd.isAgg50
  z31 := Tryd.sizeOf50
  v31 := Tryd.zeroValue50
  t37 := Tryd.underlying47
  a37 := Tryd.isAgg47
  z37 := Tryd.sizeOf47
  v37 := Tryd.zeroValue47
  t70 := Tryd.underlying46
  a70 := Tryd.isAgg46
  z70 := Tryd.sizeOf46
  v70 := Tryd.zeroValue46
  t72 := Tryd.underlying49
  a72 := Tryd.isAgg49
  z72 := Tryd.sizeOf49
  v72 := Tryd.zeroValue49
  t75 := Tryd.underlying52
  a75 := Tryd.isAgg52
  z75 := Tryd.sizeOf52
  v75 := Tryd.zeroValue52
  t76 := Tryd.underlying53
  a76 := Tryd.isAgg53
  z76 := Tryd.sizeOf53
  v76 := Tryd.zeroValue53
  t127 := Tryd.underlying67
  a127 := Tryd.isAgg67
  z127 := Tryd.sizeOf67
  v127 := Tryd.zeroValue67
  t164 := Tryd.underlying78
  a164 := Tryd.isAgg78
  z164 := Tryd.sizeOf78
  v164 := Tryd.zeroValue78 }
theorem Tryd.Builder_Extra_156 : Builder.Extra Tryd.prog Tryd.lays156_ren := {
  sizeBuilder := by kernel_rfl
  liesBuilder := by kernel_rfl
  t5 := Tryd.underlying5
  a5 := Tryd.isAgg5
  z5 := Tryd.sizeOf5
  v5 := Tryd.zeroValue5
  infoByte := by kernel_rfl
  cellsByte := by kernel_rfl
  sizeByte := by kernel_rfl
  neB5 := by decide }
open Go.RowKit in
/-- No element: the empty string; the world is as it was. (Whatever the slice's address and capacity: a nil slice too.) (LAID: no walk: one application.) -/
theorem Tryd.strings_Join_none (a : Option Addr) (c : Nat) (sep : ByteArray) (w : World) :
    Calls Tryd.prog 20 #[.slice a 0 c, .string sep] w fun e w' => e = .returned (.string ⟨#[]⟩) ∧ w' = w := Any.strings_Join_none Tryd.lays156 Tryd.Builder_Extra_156 a c sep w
open Go.RowKit in
/-- strings.Join: "Join concatenates the elements of its first argument to create a single string. The separator string sep is placed between elements in the resulting string.": HOWEVER MANY ELEMENTS. Below the heap's end the world is as it was. (LAID: no walk: one application.) -/
theorem Tryd.strings_Join (bk o c : Nat) (xs : List ByteArray) (sep : ByteArray) (w : World) (hcells : ∀ (j : Nat) x, xs[j]? = some x → w.cell? ⟨bk, o + j, none⟩ = some (.string x)) (hbk : bk < w.heap.size) (hN : xs.length ≤ 140737488355328) (hcap : xs.length ≤ c) (hlen : (Lib.join (xs.map (·.data.toList)) sep.data.toList).length ≤ 140737488355328) :
    Calls Tryd.prog 20 #[.slice (some ⟨bk, o, none⟩) xs.length c, .string sep] w fun e w' => e = .returned (.string ⟨(Lib.join (xs.map (·.data.toList)) sep.data.toList).toArray⟩) ∧ Below w.heap.size w w' := Any.strings_Join Tryd.lays156 Tryd.Builder_Extra_156 bk o c xs sep w hcells hbk hN hcap hlen
def Tryd.lays231_ren : Go.Shelf.Ren := ⟨fun | 231 => 61 | n => n, fun | 9 => 9 | 5 => 5 | 3 => 3 | 4 => 4 | n => n, fun | n => n⟩
theorem Tryd.lays231 : Go.Proofs.Lays.n231 Tryd.prog Tryd.lays231_ren := {
  mixed := by kernel_rfl
  f231 := Tryd.func61.trans (congrArg some (by kernel_rfl))
  t3 := Tryd.underlying3
  a3 := Tryd.isAgg3
  z3 := Tryd.sizeOf3
  v3 := Tryd.zeroValue3
  t4 := Tryd.underlying4
  a4 := Tryd.isAgg4
  z4 := Tryd.sizeOf4
  v4 := Tryd.zeroValue4
  t5 := Tryd.underlying5
  a5 := Tryd.isAgg5
  z5 := Tryd.sizeOf5
  v5 := Tryd.zeroValue5
  t9 := Tryd.underlying9
  a9 := Tryd.isAgg9
  z9 := Tryd.sizeOf9
  v9 := Tryd.zeroValue9 }
open Go.RowKit in
/-- strings.trimLeftByte (no doc; what TrimLeft and Trim call at a cutset of one ASCII byte): the leading bytes that are c are cut off. The world is as it was. (LAID: no walk: one application.) -/
theorem Tryd.strings_trimLeftByte (s : ByteArray) (c : UInt8) (w : World) :
    Calls Tryd.prog 61 #[.string s, .int .u8 c.toNat] w fun e w' => e = .returned (.string ⟨(Lib.trimLeftB s.data.toList c).toArray⟩) ∧ w' = w := Any.strings_trimLeftByte Tryd.lays231 s c w
def Tryd.lays232_ren : Go.Shelf.Ren := ⟨fun | 232 => 62 | n => n, fun | 9 => 9 | 5 => 5 | 3 => 3 | 4 => 4 | n => n, fun | n => n⟩
theorem Tryd.lays232 : Go.Proofs.Lays.n232 Tryd.prog Tryd.lays232_ren := {
  mixed := by kernel_rfl
  f232 := Tryd.func62.trans (congrArg some (by kernel_rfl))
  t3 := Tryd.underlying3
  a3 := Tryd.isAgg3
  z3 := Tryd.sizeOf3
  v3 := Tryd.zeroValue3
  t4 := Tryd.underlying4
  a4 := Tryd.isAgg4
  z4 := Tryd.sizeOf4
  v4 := Tryd.zeroValue4
  t5 := Tryd.underlying5
  a5 := Tryd.isAgg5
  z5 := Tryd.sizeOf5
  v5 := Tryd.zeroValue5
  t9 := Tryd.underlying9
  a9 := Tryd.isAgg9
  z9 := Tryd.sizeOf9
  v9 := Tryd.zeroValue9 }
open Go.RowKit in
/-- strings.trimRightByte (no doc; what TrimRight and Trim call at a cutset of one ASCII byte): the trailing bytes that are c are cut off. The world is as it was. ('hs': a string's length is a number that an int holds.) (LAID: no walk: one application.) -/
theorem Tryd.strings_trimRightByte (s : ByteArray) (c : UInt8) (w : World) (hs : s.size ≤ 9223372036854775807) :
    Calls Tryd.prog 62 #[.string s, .int .u8 c.toNat] w fun e w' => e = .returned (.string ⟨(Lib.trimRightB s.data.toList c).toArray⟩) ∧ w' = w := Any.strings_trimRightByte Tryd.lays232 s c w hs
def Tryd.lays160_ren : Go.Shelf.Ren := ⟨fun | 160 => 47 | 232 => 62 | 231 => 61 | 227 => 63 | 234 => 65 | 233 => 64 | 236 => 67 | 235 => 66 | 228 => 75 | 271 => 77 | 151 => 76 | 197 => 72 | 120 => 85 | 152 => 84 | 260 => 79 | 137 => 88 | 119 => 89 | 224 => 82 | 225 => 81 | 217 => 80 | 266 => 86 | n => n, fun | 9 => 9 | 4 => 4 | 3 => 3 | 5 => 5 | 117 => 97 | 116 => 96 | 0 => 0 | 124 => 100 | 21 => 21 | 105 => 103 | 46 => 87 | 119 => 110 | 139 => 113 | 138 => 112 | n => n, fun | 3 => 1 | 4 => 2 | n => n⟩
theorem Tryd.lays160 : Go.Proofs.Lays.n160 Tryd.prog Tryd.lays160_ren := {
  mixed := by kernel_rfl
  f119 := Tryd.func89.trans (congrArg some (by kernel_rfl))
  f120 := Tryd.func85.trans (congrArg some (by kernel_rfl))
  f137 := Tryd.func88.trans (congrArg some (by kernel_rfl))
  f151 := Tryd.func76.trans (congrArg some (by kernel_rfl))
  f152 := Tryd.func84.trans (congrArg some (by kernel_rfl))
  f160 := Tryd.func47.trans (congrArg some (by kernel_rfl))
  f197 := Tryd.func72.trans (congrArg some (by kernel_rfl))
  f217 := Tryd.func80.trans (congrArg some (by kernel_rfl))
  f224 := Tryd.func82.trans (congrArg some (by kernel_rfl))
  f225 := Tryd.func81.trans (congrArg some (by kernel_rfl))
  f227 := Tryd.func63.trans (congrArg some (by kernel_rfl))
  f228 := Tryd.func75.trans (congrArg some (by kernel_rfl))
  f231 := Tryd.func61.trans (congrArg some (by kernel_rfl))
  f232 := Tryd.func62.trans (congrArg some (by kernel_rfl))
  f233 := Tryd.func64.trans (congrArg some (by kernel_rfl))
  f234 := Tryd.func65.trans (congrArg some (by kernel_rfl))
  f235 := Tryd.func66.trans (congrArg some (by kernel_rfl))
  f236 := Tryd.func67.trans (congrArg some (by kernel_rfl))
  f260 := Tryd.func79.trans (congrArg some (by kernel_rfl))
  f266 := Tryd.func86.trans (congrArg some (by kernel_rfl))
  f271 := Tryd.func77.trans (congrArg some (by kernel_rfl))
  t0 := Tryd.underlying0
  a0 := Tryd.isAgg0
  z0 := Tryd.sizeOf0
  v0 := Tryd.zeroValue0
  t3 := Tryd.underlying3
  a3 := Tryd.isAgg3
  z3 := Tryd.sizeOf3
  v3 := Tryd.zeroValue3
  t4 := Tryd.underlying4
  a4 := Tryd.isAgg4
  z4 := Tryd.sizeOf4
  v4 := Tryd.zeroValue4
  t5 := Tryd.underlying5
  a5 := Tryd.isAgg5
  z5 := Tryd.sizeOf5
  v5 := Tryd.zeroValue5
  t9 := Tryd.underlying9
  a9 := Tryd.isAgg9
  z9 := Tryd.sizeOf9
  v9 := Tryd.zeroValue9
  t21 := Tryd.underlying21
  a21 := Tryd.isAgg21
  z21 := Tryd.sizeOf21
  v21 := Tryd.zeroValue21
  t46 := Tryd.underlying87
  a46 := Tryd.isAgg87
  z46 := Tryd.sizeOf87
  v46 := Tryd.zeroValue87
  t105 := Tryd.underlying103
  a105 := Tryd.isAgg103
  z105 := Tryd.sizeOf103
  v105 := Tryd.zeroValue103
  t116 := Tryd.underlying96
  a116 := Tryd.isAgg96
  z116 := Tryd.sizeOf96
  t117 := Tryd.underlying97
  a117 := Tryd.isAgg97
  z117 := Tryd.sizeOf97
  v117 := Tryd.zeroValue97
  t119 := Tryd.underlying110
  a119 := Tryd.isAgg110
  z119 := Tryd.sizeOf110
  t124 := Tryd.underlying100
  a124 := Tryd.isAgg100
  z124 := Tryd.sizeOf100
  v124 := Tryd.zeroValue100
  t138 := Tryd.underlying112
  a138 := Tryd.isAgg112
  z138 := Tryd.sizeOf112
  v138 := Tryd.zeroValue112
  t139 := Tryd.underlying113
  a139 := Tryd.isAgg113
  z139 := Tryd.sizeOf113
  v139 := Tryd.zeroValue113
  g3 := by kernel_rfl
  g4 := by kernel_rfl }
open Go.RowKit in
/-- strings.Trim: "Trim returns a slice of the string s with all leading and trailing Unicode code points contained in cutset removed.": AT A cutset OF ONE ASCII BYTE. THE WORLD BEHIND IT: as it was, or (where s is not empty) with ONE DRAW MORE off the tape: the statement 'return trimLeftByte(trimRightByte(s, c), c)' draws its order of evaluation. (LAID: no walk: one application.) -/
theorem Tryd.strings_Trim_one (s : ByteArray) (c : UInt8) (hc : c.toNat < 128) (w : World) (hs : s.size ≤ 9223372036854775807) :
    Calls Tryd.prog 47 #[.string s, .string ⟨#[c]⟩] w fun e w' => e = .returned (.string ⟨(Lib.trimB s.data.toList c).toArray⟩) ∧ (w' = w ∨ w' = w.drew) := Any.strings_Trim_one Tryd.lays160 s c hc w hs
def Tryd.lays119_ren : Go.Shelf.Ren := ⟨fun | 119 => 89 | n => n, fun | 21 => 21 | 4 => 4 | n => n, fun | n => n⟩
theorem Tryd.lays119 : Go.Proofs.Lays.n119 Tryd.prog Tryd.lays119_ren := {
  mixed := by kernel_rfl
  f119 := Tryd.func89.trans (congrArg some (by kernel_rfl))
  t4 := Tryd.underlying4
  a4 := Tryd.isAgg4
  z4 := Tryd.sizeOf4
  v4 := Tryd.zeroValue4
  t21 := Tryd.underlying21
  a21 := Tryd.isAgg21
  z21 := Tryd.sizeOf21
  v21 := Tryd.zeroValue21 }
/-- utf8.ValidRune: "ValidRune reports whether r can be legally encoded as UTF-8. Code points that are out of range or a surrogate half are illegal.": IT RETURNS 'Lib.validRune r'; the world is as it was. (LAID: no walk: one application.) -/
theorem Tryd.utf8_ValidRune (r : Int) (w : World) :
    Calls Tryd.prog 89 #[.int .i32 r] w fun e w' => e = .returned (.bool (Lib.validRune r)) ∧ w' = w := Any.utf8_ValidRune Tryd.lays119 r w
def Tryd.lays120_ren : Go.Shelf.Ren := ⟨fun | 120 => 85 | n => n, fun | 5 => 5 | 4 => 4 | n => n, fun | n => n⟩
theorem Tryd.lays120 : Go.Proofs.Lays.n120 Tryd.prog Tryd.lays120_ren := {
  mixed := by kernel_rfl
  f120 := Tryd.func85.trans (congrArg some (by kernel_rfl))
  t4 := Tryd.underlying4
  a4 := Tryd.isAgg4
  z4 := Tryd.sizeOf4
  v4 := Tryd.zeroValue4
  t5 := Tryd.underlying5
  a5 := Tryd.isAgg5
  z5 := Tryd.sizeOf5
  v5 := Tryd.zeroValue5 }
/-- utf8.RuneStart: "RuneStart reports whether the byte could be the first byte of an encoded, possibly invalid rune. Second and subsequent bytes always have the top two bits set to 10.": IT RETURNS 'Lib.runeStart b'; the world is as it was. ('h0', 'h1': b is a byte: a caller has it of every byte that it was handed.) (LAID: no walk: one application.) -/
theorem Tryd.utf8_RuneStart (b : Int) (w : World) (h0 : 0 ≤ b) (h1 : b < 256) :
    Calls Tryd.prog 85 #[.int .u8 b] w fun e w' => e = .returned (.bool (Lib.runeStart b)) ∧ w' = w := Any.utf8_RuneStart Tryd.lays120 b w h0 h1
def Tryd.lays137_ren : Go.Shelf.Ren := ⟨fun | 137 => 88 | 217 => 80 | 266 => 86 | n => n, fun | 9 => 9 | 5 => 5 | 3 => 3 | n => n, fun | n => n⟩
theorem Tryd.lays137 : Go.Proofs.Lays.n137 Tryd.prog Tryd.lays137_ren := {
  mixed := by kernel_rfl
  f137 := Tryd.func88.trans (congrArg some (by kernel_rfl))
  f217 := Tryd.func80.trans (congrArg some (by kernel_rfl))
  f266 := Tryd.func86.trans (congrArg some (by kernel_rfl))
  t3 := Tryd.underlying3
  a3 := Tryd.isAgg3
  z3 := Tryd.sizeOf3
  v3 := Tryd.zeroValue3
  t5 := Tryd.underlying5
  a5 := Tryd.isAgg5
  z5 := Tryd.sizeOf5
  v5 := Tryd.zeroValue5
  t9 := Tryd.underlying9
  a9 := Tryd.isAgg9
  z9 := Tryd.sizeOf9
  v9 := Tryd.zeroValue9 }
open Go.RowKit in
/-- strings.IndexByte: "IndexByte returns the index of the first instance of c in s, or -1 if c is not present in s.": IT RETURNS 'Lib.indexByte s c'; the world is as it was. (LAID: no walk: one application.) -/
theorem Tryd.strings_IndexByte (s : ByteArray) (c : Int) (w : World) :
    Calls Tryd.prog 88 #[.string s, .int .u8 c] w fun e w' => e = .returned (.int .i64 (Lib.indexByte s.data.toList c.toNat.toUInt8)) ∧ w' = w := Any.strings_IndexByte Tryd.lays137 s c w
def Tryd.lays210_ren : Go.Shelf.Ren := ⟨fun | 210 => 44 | 206 => 57 | n => n, fun | 9 => 9 | 4 => 4 | 3 => 3 | n => n, fun | n => n⟩
theorem Tryd.lays210 : Go.Proofs.Lays.n210 Tryd.prog Tryd.lays210_ren := {
  mixed := by kernel_rfl
  f206 := Tryd.func57.trans (congrArg some (by kernel_rfl))
  f210 := Tryd.func44.trans (congrArg some (by kernel_rfl))
  t3 := Tryd.underlying3
  a3 := Tryd.isAgg3
  z3 := Tryd.sizeOf3
  v3 := Tryd.zeroValue3
  t4 := Tryd.underlying4
  a4 := Tryd.isAgg4
  z4 := Tryd.sizeOf4
  v4 := Tryd.zeroValue4
  t9 := Tryd.underlying9
  a9 := Tryd.isAgg9
  z9 := Tryd.sizeOf9
  v9 := Tryd.zeroValue9 }
open Go.RowKit in
/-- internal/stringslite.CutPrefix (what strings.CutPrefix calls). (LAID: no walk: one application.) -/
theorem Tryd.stringslite_CutPrefix (s p : ByteArray) (w : World) :
    Calls Tryd.prog 44 #[.string s, .string p] w fun e w' => e = .returned (.tuple #[.string ⟨(Lib.trimPrefix s.data.toList p.data.toList).toArray⟩, .bool (Lib.hasPrefix s.data.toList p.data.toList)]) ∧ w' = w := Any.stringslite_CutPrefix Tryd.lays210 s p w
def Tryd.lays103_ren : Go.Shelf.Ren := ⟨fun | 103 => 30 | 210 => 44 | 206 => 57 | n => n, fun | 9 => 9 | 4 => 4 | 24 => 62 | 3 => 3 | n => n, fun | n => n⟩
theorem Tryd.lays103 : Go.Proofs.Lays.n103 Tryd.prog Tryd.lays103_ren := {
  mixed := by kernel_rfl
  f103 := Tryd.func30.trans (congrArg some (by kernel_rfl))
  f206 := Tryd.func57.trans (congrArg some (by kernel_rfl))
  f210 := Tryd.func44.trans (congrArg some (by kernel_rfl))
  t3 := Tryd.underlying3
  a3 := Tryd.isAgg3
  z3 := Tryd.sizeOf3
  v3 := Tryd.zeroValue3
  t4 := Tryd.underlying4
  a4 := Tryd.isAgg4
  z4 := Tryd.sizeOf4
  v4 := Tryd.zeroValue4
  t9 := Tryd.underlying9
  a9 := Tryd.isAgg9
  z9 := Tryd.sizeOf9
  v9 := Tryd.zeroValue9
  t24 := Tryd.underlying62
  a24 := Tryd.isAgg62
  z24 := Tryd.sizeOf62
  v24 := Tryd.zeroValue62 }
open Go.RowKit in
/-- strings.CutPrefix: "CutPrefix returns s without the provided leading prefix string and reports whether it found the prefix. If s doesn't start with prefix, CutPrefix returns s, false. If prefix is the empty string, CutPrefix returns s, true.": IT RETURNS '(Lib.trimPrefix s p, Lib.hasPrefix s p)'; the world is as it was. (LAID: no walk: one application.) -/
theorem Tryd.strings_CutPrefix (s p : ByteArray) (w : World) :
    Calls Tryd.prog 30 #[.string s, .string p] w fun e w' => e = .returned (.tuple #[.string ⟨(Lib.trimPrefix s.data.toList p.data.toList).toArray⟩, .bool (Lib.hasPrefix s.data.toList p.data.toList)]) ∧ w' = w := Any.strings_CutPrefix Tryd.lays103 s p w
open Go.RowKit in
/-- (*strings.Builder).String: "String returns the accumulated string.": OF A BUILDER THAT HOLDS AT LEAST ONE BYTE. ✋ THE MODEL FREEZES THOSE BYTES IN THE BUFFER (unsafe.String): a later write INTO them ends the model's run without an answer; a later append BEHIND them goes on. The statement's order of evaluation is drawn: one draw. THE FORM '_f': IT SAYS BESIDES THAT THE BUILDER IS A BUILDER STILL ('Lib.IsBuilderF', the same bytes): SO IT CAN BE WRITTEN ON: 'b.WriteString(b.String()[:k])'. (LAID: no walk: one application.) -/
theorem Tryd.Builder_String_f (B b : Nat) (l : List UInt8) (w : World) (h : Lib.IsBuilderF 49 5 B b (Lib.byteCells l) w) (h0 : l ≠ []) :
    Calls Tryd.prog 21 #[.pointer (some ⟨b, 0, none⟩)] w fun e w' => e = .returned (.string ⟨l.toArray⟩) ∧ (Lib.IsBuilderF 49 5 B b (Lib.byteCells l) w' ∧ Below B w w') := Any.Builder_String_f Tryd.lays169 Tryd.Builder_Extra_169 B b l w h h0
open Go.RowKit in
/-- (*strings.Builder).String OF A BUILDER THAT HOLDS NO BYTE: the empty string; THE FORM '_f': a builder still. (LAID: no walk: one application.) -/
theorem Tryd.Builder_String_empty_f (B b : Nat) (w : World) (h : Lib.IsBuilderF 49 5 B b [] w) (hBw : B ≤ w.heap.size) :
    Calls Tryd.prog 21 #[.pointer (some ⟨b, 0, none⟩)] w fun e w' => e = .returned (.string ⟨#[]⟩) ∧ (Lib.IsBuilderF 49 5 B b [] w' ∧ Below B w w') := Any.Builder_String_empty_f Tryd.lays169 Tryd.Builder_Extra_169 B b w h hBw
open Go.RowKit in
/-- (*strings.Builder).String: "String returns the accumulated string.": WHATEVER THE BUILDER HOLDS; THE FORM '_f': OF A BUILDER THAT MAY HAVE BEEN READ BEFORE; AND IT IS A BUILDER STILL, holding the same bytes: it can be written on. (LAID: no walk: one application.) -/
theorem Tryd.Builder_String_any_f (B b : Nat) (l : List UInt8) (w : World) (h : Lib.IsBuilderF 49 5 B b (Lib.byteCells l) w) (hBw : B ≤ w.heap.size) :
    Calls Tryd.prog 21 #[.pointer (some ⟨b, 0, none⟩)] w fun e w' => e = .returned (.string ⟨l.toArray⟩) ∧ (Lib.IsBuilderF 49 5 B b (Lib.byteCells l) w' ∧ Below B w w') := Any.Builder_String_any_f Tryd.lays169 Tryd.Builder_Extra_169 B b l w h hBw
open Go.RowKit in
/-- (*strings.Builder).String: "String returns the accumulated string.": OF A BUILDER THAT HOLDS AT LEAST ONE BYTE. ✋ THE MODEL FREEZES THOSE BYTES IN THE BUFFER (unsafe.String): a later write INTO them ends the model's run without an answer; a later append BEHIND them goes on. The statement's order of evaluation is drawn: one draw. THE FORM '_k': OVER 'Lib.IsBuilderF' (a builder that 'String()' may have read), AND WITH THE FRAME THAT REACHES ABOVE THE BUILDER: 'Lib.OthersKept': every block that is not b and is no row of uint8's stands as it stood: the iterator of a range among them. (LAID: no walk: one application.) -/
theorem Tryd.Builder_String_k (B b : Nat) (l : List UInt8) (w : World) (h : Lib.IsBuilderF 49 5 B b (Lib.byteCells l) w) (h0 : l ≠ []) :
    Calls Tryd.prog 21 #[.pointer (some ⟨b, 0, none⟩)] w fun e w' => e = .returned (.string ⟨l.toArray⟩) ∧ (Lib.IsBuilderF 49 5 B b (Lib.byteCells l) w' ∧ Below B w w' ∧ Lib.OthersKept 5 (some b) w w') := Any.Builder_String_k Tryd.lays169 Tryd.Builder_Extra_169 B b l w h h0
open Go.RowKit in
/-- (*strings.Builder).String OF A BUILDER THAT HOLDS NO BYTE: the empty string; THE FORM '_k': OVER 'Lib.IsBuilderF' (a builder that 'String()' may have read), AND WITH THE FRAME THAT REACHES ABOVE THE BUILDER: 'Lib.OthersKept': every block that is not b and is no row of uint8's stands as it stood: the iterator of a range among them. (LAID: no walk: one application.) -/
theorem Tryd.Builder_String_empty_k (B b : Nat) (w : World) (h : Lib.IsBuilderF 49 5 B b [] w) (hBw : B ≤ w.heap.size) :
    Calls Tryd.prog 21 #[.pointer (some ⟨b, 0, none⟩)] w fun e w' => e = .returned (.string ⟨#[]⟩) ∧ (Lib.IsBuilderF 49 5 B b [] w' ∧ Below B w w' ∧ Lib.OthersKept 5 (some b) w w') := Any.Builder_String_empty_k Tryd.lays169 Tryd.Builder_Extra_169 B b w h hBw
open Go.RowKit in
/-- (*strings.Builder).String: "String returns the accumulated string.": WHATEVER THE BUILDER HOLDS; THE FORM '_k': OVER 'Lib.IsBuilderF' (a builder that 'String()' may have read), AND WITH THE FRAME THAT REACHES ABOVE THE BUILDER: 'Lib.OthersKept': every block that is not b and is no row of uint8's stands as it stood: the iterator of a range among them. (LAID: no walk: one application.) -/
theorem Tryd.Builder_String_any_k (B b : Nat) (l : List UInt8) (w : World) (h : Lib.IsBuilderF 49 5 B b (Lib.byteCells l) w) (hBw : B ≤ w.heap.size) :
    Calls Tryd.prog 21 #[.pointer (some ⟨b, 0, none⟩)] w fun e w' => e = .returned (.string ⟨l.toArray⟩) ∧ (Lib.IsBuilderF 49 5 B b (Lib.byteCells l) w' ∧ Below B w w' ∧ Lib.OthersKept 5 (some b) w w') := Any.Builder_String_any_k Tryd.lays169 Tryd.Builder_Extra_169 B b l w h hBw
def Tryd.lays195_ren : Go.Shelf.Ren := ⟨fun | 195 => 71 | n => n, fun | 9 => 9 | 3 => 3 | 0 => 0 | 4 => 4 | n => n, fun | n => n⟩
theorem Tryd.lays195 : Go.Proofs.Lays.n195 Tryd.prog Tryd.lays195_ren := {
  mixed := by kernel_rfl
  f195 := Tryd.func71.trans (congrArg some (by kernel_rfl))
  t0 := Tryd.underlying0
  a0 := Tryd.isAgg0
  z0 := Tryd.sizeOf0
  v0 := Tryd.zeroValue0
  t3 := Tryd.underlying3
  a3 := Tryd.isAgg3
  z3 := Tryd.sizeOf3
  v3 := Tryd.zeroValue3
  t4 := Tryd.underlying4
  a4 := Tryd.isAgg4
  z4 := Tryd.sizeOf4
  v4 := Tryd.zeroValue4
  t9 := Tryd.underlying9
  a9 := Tryd.isAgg9
  z9 := Tryd.sizeOf9
  v9 := Tryd.zeroValue9 }
open Go.RowKit in
/-- unicode/utf8.RuneCountInString: "RuneCountInString is like RuneCount but its input is a string." ("RuneCount returns the number of runes in p. Erroneous and short encodings are treated as single runes of width 1 byte."): EVERY STRING, valid UTF-8 or not: 'Lib.runeCount s' (plain Lean over the model's own 'Utf8.decode'; 'Lib.runeCount_le': at most len(s); 'Lib.runeCount_ascii': on ASCII: len(s)). THE ONE CONDITION: len(s) below 2^63 - 1 (the counter does not wrap): the form's reach pays it. THE WORLD BEHIND THE CALL: ONE BLOCK MORE: the model's iterator over s, at its end: all else as it was. (LAID: no walk: one application.) -/
theorem Tryd.utf8_RuneCountInString (s : ByteArray) (w : World) (hs : s.size < 9223372036854775807) :
    Calls Tryd.prog 71 #[.string s] w fun e w' => e = .returned (.int .i64 (Lib.runeCount s)) ∧ ∃ pos, w' = w.iter s pos := Any.utf8_RuneCountInString Tryd.lays195 s w hs
open Go.RowKit in
/-- (*strings.Builder).grow (no doc but "grow copies the buffer to a new, larger buffer so that there are at least n bytes of capacity beyond len(b.buf)."): AT A BUILDER WITHOUT A BUFFER: a new row of whatever bytes for its buffer, none of them its own yet. Three draws. (LAID: no walk: one application.) -/
theorem Tryd.Builder_grow_fresh_cap (B b n : Nat) (w : World) (hB : B ≤ b) (hbk : w.heap[b]? = some (.cells #[.pointer (some ⟨b, 0, none⟩), .slice none 0 0] 49 (0, 0))) (hBw : B ≤ w.heap.size) (hn : n ≤ 281474976710656) :
    Calls Tryd.prog 43 #[.pointer (some ⟨b, 0, none⟩), .int .i64 n] w fun e w' => e = .returned (.tuple #[]) ∧ (Lib.BuilderAt 49 5 B b (.pointer (some ⟨b, 0, none⟩)) [] w' ∧ Below B w w') ∧ ∃ p cap, w'.cell? ⟨b, 1, none⟩ = some (.slice p 0 cap) ∧ n ≤ cap := Any.Builder_grow_fresh_cap Tryd.lays241 Tryd.Builder_Extra_241 B b n w hB hbk hBw hn
open Go.RowKit in
/-- (*strings.Builder).Grow AT A BUILDER THAT HAS NOT BEEN WRITTEN ('var b strings.Builder; b.Grow(n)'): "Grow grows b's capacity, if necessary, to guarantee space for another n bytes.": it holds no byte behind it as before it. (LAID: no walk: one application.) -/
theorem Tryd.Builder_Grow_fresh_cap (B b n : Nat) (w : World) (hB : B ≤ b) (hbk : w.heap[b]? = some (.cells #[.pointer none, .slice none 0 0] 49 (0, 0))) (hBw : B ≤ w.heap.size) (hn : n ≤ 281474976710656) :
    Calls Tryd.prog 29 #[.pointer (some ⟨b, 0, none⟩), .int .i64 n] w fun e w' => e = .returned (.tuple #[]) ∧ (Lib.BuilderAt 49 5 B b (.pointer (some ⟨b, 0, none⟩)) [] w' ∧ Below B w w') ∧ ∃ p cap, w'.cell? ⟨b, 1, none⟩ = some (.slice p 0 cap) ∧ n ≤ cap := Any.Builder_Grow_fresh_cap Tryd.lays165 Tryd.Builder_Extra_165 B b n w hB hbk hBw hn
def Tryd.lays217_ren : Go.Shelf.Ren := ⟨fun | 217 => 80 | 266 => 86 | n => n, fun | 9 => 9 | 5 => 5 | 3 => 3 | n => n, fun | n => n⟩
theorem Tryd.lays217 : Go.Proofs.Lays.n217 Tryd.prog Tryd.lays217_ren := {
  mixed := by kernel_rfl
  f217 := Tryd.func80.trans (congrArg some (by kernel_rfl))
  f266 := Tryd.func86.trans (congrArg some (by kernel_rfl))
  t3 := Tryd.underlying3
  a3 := Tryd.isAgg3
  z3 := Tryd.sizeOf3
  v3 := Tryd.zeroValue3
  t5 := Tryd.underlying5
  a5 := Tryd.isAgg5
  z5 := Tryd.sizeOf5
  v5 := Tryd.zeroValue5
  t9 := Tryd.underlying9
  a9 := Tryd.isAgg9
  z9 := Tryd.sizeOf9
  v9 := Tryd.zeroValue9 }
open Go.RowKit Go.Lib in
/-- internal/stringslite.IndexByte (what strings.IndexByte calls): IT RETURNS 'Lib.indexByte s c'; the world is as it was. (LAID: no walk: one application.) -/
theorem Tryd.stringslite_IndexByte (s : ByteArray) (c : Int) (w : World) :
    Calls Tryd.prog 80 #[.string s, .int .u8 c] w fun e w' => e = .returned (.int .i64 (Lib.indexByte s.data.toList c.toNat.toUInt8)) ∧ w' = w := Any.stringslite_IndexByte Tryd.lays217 s c w
def Tryd.lays224_ren : Go.Shelf.Ren := ⟨fun | 224 => 82 | n => n, fun | 3 => 3 | n => n, fun | n => n⟩
theorem Tryd.lays224 : Go.Proofs.Lays.n224 Tryd.prog Tryd.lays224_ren := {
  mixed := by kernel_rfl
  f224 := Tryd.func82.trans (congrArg some (by kernel_rfl))
  t3 := Tryd.underlying3
  a3 := Tryd.isAgg3
  z3 := Tryd.sizeOf3
  v3 := Tryd.zeroValue3 }
open Go.RowKit Go.Lib in
/-- internal/bytealg.Cutover: "Cutover reports the number of failures of IndexByte we should tolerate before switching over to Index. n is the number of bytes processed so far.": on amd64: (n + 16) / 8. (LAID: no walk: one application.) -/
theorem Tryd.bytealg_Cutover (n : Int) (h0 : 0 ≤ n) (h1 : n < 4611686018427387904) (w : World) :
    Calls Tryd.prog 82 #[.int .i64 n] w fun e w' => e = .returned (.int .i64 ((n + 16) / 8)) ∧ w' = w := Any.bytealg_Cutover Tryd.lays224 n h0 h1 w
def Tryd.lays314_ren : Go.Shelf.Ren := ⟨fun | 314 => 87 | n => n, fun | 9 => 9 | 51 => 114 | 3 => 3 | 4 => 4 | 5 => 5 | 46 => 87 | n => n, fun | n => n⟩
theorem Tryd.lays314 : Go.Proofs.Lays.n314 Tryd.prog Tryd.lays314_ren := {
  mixed := by kernel_rfl
  f314 := Tryd.func87.trans (congrArg some (by kernel_rfl))
  t3 := Tryd.underlying3
  a3 := Tryd.isAgg3
  z3 := Tryd.sizeOf3
  v3 := Tryd.zeroValue3
  t4 := Tryd.underlying4
  a4 := Tryd.isAgg4
  z4 := Tryd.sizeOf4
  v4 := Tryd.zeroValue4
  t5 := Tryd.underlying5
  a5 := Tryd.isAgg5
  z5 := Tryd.sizeOf5
  v5 := Tryd.zeroValue5
  t9 := Tryd.underlying9
  a9 := Tryd.isAgg9
  z9 := Tryd.sizeOf9
  v9 := Tryd.zeroValue9
  t46 := Tryd.underlying87
  a46 := Tryd.isAgg87
  z46 := Tryd.sizeOf87
  v46 := Tryd.zeroValue87
  t51 := Tryd.underlying114
  a51 := Tryd.isAgg114
  z51 := Tryd.sizeOf114
  v51 := Tryd.zeroValue114 }
open Go.RowKit Go.Lib in
/-- hashStr: "returns the hash and the appropriate multiplicative factor for use in Rabin-Karp algorithm": THE HASH OF ALL OF sep, AND 16777619 ^ len(sep), both in uint32. (LAID: no walk: one application.) -/
theorem Tryd.bytealg_hashStr (sep : ByteArray) (hs : sep.size < 4294967281) (w : World) :
    Calls Tryd.prog 87 #[.string sep] w fun e w' => e = .returned (.tuple #[.int .u32 (RK.H sep.data.toList % 4294967296), .int .u32 (16777619 ^ sep.size % 4294967296)]) ∧ w' = w := Any.bytealg_hashStr Tryd.lays314 sep hs w
def Tryd.lays267_ren : Go.Shelf.Ren := ⟨fun | 267 => 83 | 314 => 87 | n => n, fun | 9 => 9 | 3 => 3 | 146 => 115 | 51 => 114 | 4 => 4 | 5 => 5 | 46 => 87 | n => n, fun | n => n⟩
theorem Tryd.lays267 : Go.Proofs.Lays.n267 Tryd.prog Tryd.lays267_ren := {
  mixed := by kernel_rfl
  f267 := Tryd.func83.trans (congrArg some (by kernel_rfl))
  f314 := Tryd.func87.trans (congrArg some (by kernel_rfl))
  t3 := Tryd.underlying3
  a3 := Tryd.isAgg3
  z3 := Tryd.sizeOf3
  v3 := Tryd.zeroValue3
  t4 := Tryd.underlying4
  a4 := Tryd.isAgg4
  z4 := Tryd.sizeOf4
  v4 := Tryd.zeroValue4
  t5 := Tryd.underlying5
  a5 := Tryd.isAgg5
  z5 := Tryd.sizeOf5
  v5 := Tryd.zeroValue5
  t9 := Tryd.underlying9
  a9 := Tryd.isAgg9
  z9 := Tryd.sizeOf9
  v9 := Tryd.zeroValue9
  t46 := Tryd.underlying87
  a46 := Tryd.isAgg87
  z46 := Tryd.sizeOf87
  v46 := Tryd.zeroValue87
  t51 := Tryd.underlying114
  a51 := Tryd.isAgg114
  z51 := Tryd.sizeOf114
  v51 := Tryd.zeroValue114
  t146 := Tryd.underlying115
  a146 := Tryd.isAgg115
  z146 := Tryd.sizeOf115
  v146 := Tryd.zeroValue115 }
open Go.RowKit Go.Lib in
theorem Tryd.bytealg_IndexRabinKarp (s sep : ByteArray) (h1 : 1 ≤ sep.size) (h2 : sep.size ≤ s.size) (hs : s.size < 4294967281) (w : World) :
    Calls Tryd.prog 83 #[.string s, .string sep] w fun e w' => e = .returned (.int .i64 (Lib.index s.data.toList sep.data.toList)) ∧ w' = w := Any.bytealg_IndexRabinKarp Tryd.lays267 s sep h1 h2 hs w
def Tryd.lays219_ren : Go.Shelf.Ren := ⟨fun | 219 => 74 | 217 => 80 | 225 => 81 | 224 => 82 | 267 => 83 | 266 => 86 | 314 => 87 | n => n, fun | 9 => 9 | 3 => 3 | 4 => 4 | 5 => 5 | 46 => 87 | 146 => 115 | 51 => 114 | n => n, fun | 1 => 0 | n => n⟩
theorem Tryd.lays219 : Go.Proofs.Lays.n219 Tryd.prog Tryd.lays219_ren := {
  mixed := by kernel_rfl
  f217 := Tryd.func80.trans (congrArg some (by kernel_rfl))
  f219 := Tryd.func74.trans (congrArg some (by kernel_rfl))
  f224 := Tryd.func82.trans (congrArg some (by kernel_rfl))
  f225 := Tryd.func81.trans (congrArg some (by kernel_rfl))
  f266 := Tryd.func86.trans (congrArg some (by kernel_rfl))
  f267 := Tryd.func83.trans (congrArg some (by kernel_rfl))
  f314 := Tryd.func87.trans (congrArg some (by kernel_rfl))
  t3 := Tryd.underlying3
  a3 := Tryd.isAgg3
  z3 := Tryd.sizeOf3
  v3 := Tryd.zeroValue3
  t4 := Tryd.underlying4
  a4 := Tryd.isAgg4
  z4 := Tryd.sizeOf4
  v4 := Tryd.zeroValue4
  t5 := Tryd.underlying5
  a5 := Tryd.isAgg5
  z5 := Tryd.sizeOf5
  v5 := Tryd.zeroValue5
  t9 := Tryd.underlying9
  a9 := Tryd.isAgg9
  z9 := Tryd.sizeOf9
  v9 := Tryd.zeroValue9
  t46 := Tryd.underlying87
  a46 := Tryd.isAgg87
  z46 := Tryd.sizeOf87
  v46 := Tryd.zeroValue87
  t51 := Tryd.underlying114
  a51 := Tryd.isAgg114
  z51 := Tryd.sizeOf114
  v51 := Tryd.zeroValue114
  t146 := Tryd.underlying115
  a146 := Tryd.isAgg115
  z146 := Tryd.sizeOf115
  v146 := Tryd.zeroValue115
  g1 := by kernel_rfl }
open Go.RowKit Go.Lib in
/-- internal/stringslite.Index (what strings.Index calls) AT A substr OF ONE BYTE c: IT RETURNS 'Lib.indexByte s c'; the world is as it was. (LAID: no walk: one application.) -/
theorem Tryd.stringslite_Index_one (s : ByteArray) (c : UInt8) (w : World) :
    Calls Tryd.prog 74 #[.string s, .string ⟨#[c]⟩] w fun e w' => e = .returned (.int .i64 (Lib.indexByte s.data.toList c)) ∧ w' = w := Any.stringslite_Index_one Tryd.lays219 s c w
open Go.RowKit Go.Lib in
/-- internal/stringslite.Index (what strings.Index calls) AT A substr OF WHATEVER LENGTH: IT RETURNS 'Lib.index s substr'; the world is as it was. 'm': what internal/bytealg.MaxLen holds: whatever. (LAID: no walk: one application.) -/
theorem Tryd.stringslite_Index (s sub : ByteArray) (m : Int) (w : World) (hs : s.size < 4294967281) (hm : w.cell? ⟨0, 0, none⟩ = some (.int .i64 m)) :
    Calls Tryd.prog 74 #[.string s, .string sub] w fun e w' => e = .returned (.int .i64 (Lib.index s.data.toList sub.data.toList)) ∧ w' = w := Any.stringslite_Index Tryd.lays219 s sub m w hs hm
def Tryd.lays143_ren : Go.Shelf.Ren := ⟨fun | 143 => 60 | 219 => 74 | 217 => 80 | 225 => 81 | 224 => 82 | 267 => 83 | 266 => 86 | 314 => 87 | n => n, fun | 9 => 9 | 3 => 3 | 4 => 4 | 5 => 5 | 46 => 87 | 146 => 115 | 51 => 114 | n => n, fun | 1 => 0 | n => n⟩
theorem Tryd.lays143 : Go.Proofs.Lays.n143 Tryd.prog Tryd.lays143_ren := {
  mixed := by kernel_rfl
  f143 := Tryd.func60.trans (congrArg some (by kernel_rfl))
  f217 := Tryd.func80.trans (congrArg some (by kernel_rfl))
  f219 := Tryd.func74.trans (congrArg some (by kernel_rfl))
  f224 := Tryd.func82.trans (congrArg some (by kernel_rfl))
  f225 := Tryd.func81.trans (congrArg some (by kernel_rfl))
  f266 := Tryd.func86.trans (congrArg some (by kernel_rfl))
  f267 := Tryd.func83.trans (congrArg some (by kernel_rfl))
  f314 := Tryd.func87.trans (congrArg some (by kernel_rfl))
  t3 := Tryd.underlying3
  a3 := Tryd.isAgg3
  z3 := Tryd.sizeOf3
  v3 := Tryd.zeroValue3
  t4 := Tryd.underlying4
  a4 := Tryd.isAgg4
  z4 := Tryd.sizeOf4
  v4 := Tryd.zeroValue4
  t5 := Tryd.underlying5
  a5 := Tryd.isAgg5
  z5 := Tryd.sizeOf5
  v5 := Tryd.zeroValue5
  t9 := Tryd.underlying9
  a9 := Tryd.isAgg9
  z9 := Tryd.sizeOf9
  v9 := Tryd.zeroValue9
  t46 := Tryd.underlying87
  a46 := Tryd.isAgg87
  z46 := Tryd.sizeOf87
  v46 := Tryd.zeroValue87
  t51 := Tryd.underlying114
  a51 := Tryd.isAgg114
  z51 := Tryd.sizeOf114
  v51 := Tryd.zeroValue114
  t146 := Tryd.underlying115
  a146 := Tryd.isAgg115
  z146 := Tryd.sizeOf115
  v146 := Tryd.zeroValue115
  g1 := by kernel_rfl }
open Go.RowKit Go.Lib in
/-- strings.Index: "Index returns the index of the first instance of substr in s, or -1 if substr is not present in s.": AT A substr OF ONE BYTE c: IT RETURNS 'Lib.indexByte s c'; the world is as it was. (LAID: no walk: one application.) -/
theorem Tryd.strings_Index_one (s : ByteArray) (c : UInt8) (w : World) :
    Calls Tryd.prog 60 #[.string s, .string ⟨#[c]⟩] w fun e w' => e = .returned (.int .i64 (Lib.indexByte s.data.toList c)) ∧ w' = w := Any.strings_Index_one Tryd.lays143 s c w
open Go.RowKit Go.Lib in
/-- strings.Index: "Index returns the index of the first instance of substr in s, or -1 if substr is not present in s.": IT RETURNS 'Lib.index s substr'; the world is as it was. (LAID: no walk: one application.) -/
theorem Tryd.strings_Index (s sub : ByteArray) (m : Int) (w : World) (hs : s.size < 4294967281) (hm : w.cell? ⟨0, 0, none⟩ = some (.int .i64 m)) :
    Calls Tryd.prog 60 #[.string s, .string sub] w fun e w' => e = .returned (.int .i64 (Lib.index s.data.toList sub.data.toList)) ∧ w' = w := Any.strings_Index Tryd.lays143 s sub m w hs hm
def Tryd.lays138_ren : Go.Shelf.Ren := ⟨fun | 138 => 59 | 195 => 71 | 218 => 73 | 143 => 60 | 219 => 74 | 217 => 80 | 225 => 81 | 224 => 82 | 267 => 83 | 266 => 86 | 314 => 87 | n => n, fun | 9 => 9 | 3 => 3 | 4 => 4 | 5 => 5 | 0 => 0 | 46 => 87 | 146 => 115 | 51 => 114 | n => n, fun | 1 => 0 | n => n⟩
theorem Tryd.lays138 : Go.Proofs.Lays.n138 Tryd.prog Tryd.lays138_ren := {
  mixed := by kernel_rfl
  f138 := Tryd.func59.trans (congrArg some (by kernel_rfl))
  f143 := Tryd.func60.trans (congrArg some (by kernel_rfl))
  f195 := Tryd.func71.trans (congrArg some (by kernel_rfl))
  f217 := Tryd.func80.trans (congrArg some (by kernel_rfl))
  f218 := Tryd.func73.trans (congrArg some (by kernel_rfl))
  f219 := Tryd.func74.trans (congrArg some (by kernel_rfl))
  f224 := Tryd.func82.trans (congrArg some (by kernel_rfl))
  f225 := Tryd.func81.trans (congrArg some (by kernel_rfl))
  f266 := Tryd.func86.trans (congrArg some (by kernel_rfl))
  f267 := Tryd.func83.trans (congrArg some (by kernel_rfl))
  f314 := Tryd.func87.trans (congrArg some (by kernel_rfl))
  t0 := Tryd.underlying0
  a0 := Tryd.isAgg0
  z0 := Tryd.sizeOf0
  v0 := Tryd.zeroValue0
  t3 := Tryd.underlying3
  a3 := Tryd.isAgg3
  z3 := Tryd.sizeOf3
  v3 := Tryd.zeroValue3
  t4 := Tryd.underlying4
  a4 := Tryd.isAgg4
  z4 := Tryd.sizeOf4
  v4 := Tryd.zeroValue4
  t5 := Tryd.underlying5
  a5 := Tryd.isAgg5
  z5 := Tryd.sizeOf5
  v5 := Tryd.zeroValue5
  t9 := Tryd.underlying9
  a9 := Tryd.isAgg9
  z9 := Tryd.sizeOf9
  v9 := Tryd.zeroValue9
  t46 := Tryd.underlying87
  a46 := Tryd.isAgg87
  z46 := Tryd.sizeOf87
  v46 := Tryd.zeroValue87
  t51 := Tryd.underlying114
  a51 := Tryd.isAgg114
  z51 := Tryd.sizeOf114
  v51 := Tryd.zeroValue114
  t146 := Tryd.underlying115
  a146 := Tryd.isAgg115
  z146 := Tryd.sizeOf115
  v146 := Tryd.zeroValue115
  g1 := by kernel_rfl }
open Go.RowKit Go.Lib in
/-- strings.Count AT A substr OF ONE BYTE ('hp'): "Count counts the number of non-overlapping instances of substr in s.": IT RETURNS 'Lib.countByte s (that byte)'; the world is as it was. ✋ NO CONTRACT HERE YET at an empty substr (utf8.RuneCountInString) or at a longer one (a loop over strings.Index). (LAID: no walk: one application.) -/
theorem Tryd.strings_Count_one (s : ByteArray) (c : UInt8) (w : World) :
    Calls Tryd.prog 59 #[.string s, .string ⟨#[c]⟩] w fun e w' => e = .returned (.int .i64 (Lib.countByte s.data.toList c)) ∧ w' = w := Any.strings_Count_one Tryd.lays138 s c w
open Go.RowKit Go.Lib in
/-- strings.Count AT A substr OF TWO BYTES OR MORE: "Count counts the number of non-overlapping instances of substr in s.": IT RETURNS 'Lib.count s substr'; the world is as it was. (LAID: no walk: one application.) -/
theorem Tryd.strings_Count (s sub : ByteArray) (m : Int) (w : World) (hs : s.size < 4294967281) (hm : w.cell? ⟨0, 0, none⟩ = some (.int .i64 m)) (h2 : 2 ≤ sub.size) :
    Calls Tryd.prog 59 #[.string s, .string sub] w fun e w' => e = .returned (.int .i64 (Lib.countB s sub)) ∧ w' = w := Any.strings_Count Tryd.lays138 s sub m w hs hm h2
def Tryd.laysM219_ren : Go.Shelf.Ren := ⟨fun | 219 => 74 | 217 => 80 | 225 => 81 | 224 => 82 | 267 => 83 | 266 => 86 | 314 => 87 | n => n, fun | 9 => 9 | 3 => 3 | 4 => 4 | 5 => 5 | 46 => 87 | 146 => 115 | 51 => 114 | n => n, fun | 1 => 0 | n => n⟩
theorem Tryd.laysM219 : Go.Proofs.LaysM.n219 Tryd.prog Tryd.laysM219_ren := {
  mixed := by kernel_rfl
  f217 := Tryd.func80.trans (congrArg some (by kernel_rfl))
  f219 := Tryd.func74.trans (congrArg some (by kernel_rfl))
  f224 := Tryd.func82.trans (congrArg some (by kernel_rfl))
  f225 := Tryd.func81.trans (congrArg some (by kernel_rfl))
  f266 := Tryd.func86.trans (congrArg some (by kernel_rfl))
  f267 := Tryd.func83.trans (congrArg some (by kernel_rfl))
  f314 := Tryd.func87.trans (congrArg some (by kernel_rfl))
  t3 := Tryd.underlying3
  a3 := Tryd.isAgg3
  z3 := Tryd.sizeOf3
  v3 := Tryd.zeroValue3
  t4 := Tryd.underlying4
  a4 := Tryd.isAgg4
  z4 := Tryd.sizeOf4
  v4 := Tryd.zeroValue4
  t5 := Tryd.underlying5
  a5 := Tryd.isAgg5
  z5 := Tryd.sizeOf5
  v5 := Tryd.zeroValue5
  t9 := Tryd.underlying9
  a9 := Tryd.isAgg9
  z9 := Tryd.sizeOf9
  v9 := Tryd.zeroValue9
  t46 := Tryd.underlying87
  a46 := Tryd.isAgg87
  z46 := Tryd.sizeOf87
  v46 := Tryd.zeroValue87
  t51 := Tryd.underlying114
  a51 := Tryd.isAgg114
  z51 := Tryd.sizeOf114
  v51 := Tryd.zeroValue114
  t146 := Tryd.underlying115
  a146 := Tryd.isAgg115
  z146 := Tryd.sizeOf115
  v146 := Tryd.zeroValue115
  g1 := by kernel_rfl
  i3 := by kernel_rfl
  i4 := by kernel_rfl
  i5 := by kernel_rfl
  i9 := by kernel_rfl
  i46 := by kernel_rfl
  i51 := by kernel_rfl
  i146 := by kernel_rfl
  m1 := by kernel_rfl
  s1_3 := fun w h => Go.Proofs.cell_of_shapedOpen_int (zero := #[.int .i64 0]) (t := 3) h (of_decide_eq_true (by kernel_rfl)) (by kernel_rfl) rfl (by kernel_rfl) (by kernel_rfl) Tryd.underlying3 }
open Go.RowKit Go.Lib in
theorem Tryd.stringslite_Index_shaped (s sub : ByteArray) (w : World) (h : w.ShapedOpen Tryd.prog) (hs : s.size < 4294967281) :
    Calls Tryd.prog 74 #[.string s, .string sub] w fun e w' => e = .returned (.int .i64 (Lib.index s.data.toList sub.data.toList)) ∧ w' = w := Any.stringslite_Index_shaped Tryd.laysM219 s sub w h hs
def Tryd.laysM143_ren : Go.Shelf.Ren := ⟨fun | 143 => 60 | 219 => 74 | 217 => 80 | 225 => 81 | 224 => 82 | 267 => 83 | 266 => 86 | 314 => 87 | n => n, fun | 9 => 9 | 3 => 3 | 4 => 4 | 5 => 5 | 46 => 87 | 146 => 115 | 51 => 114 | n => n, fun | 1 => 0 | n => n⟩
theorem Tryd.laysM143 : Go.Proofs.LaysM.n143 Tryd.prog Tryd.laysM143_ren := {
  mixed := by kernel_rfl
  f143 := Tryd.func60.trans (congrArg some (by kernel_rfl))
  f217 := Tryd.func80.trans (congrArg some (by kernel_rfl))
  f219 := Tryd.func74.trans (congrArg some (by kernel_rfl))
  f224 := Tryd.func82.trans (congrArg some (by kernel_rfl))
  f225 := Tryd.func81.trans (congrArg some (by kernel_rfl))
  f266 := Tryd.func86.trans (congrArg some (by kernel_rfl))
  f267 := Tryd.func83.trans (congrArg some (by kernel_rfl))
  f314 := Tryd.func87.trans (congrArg some (by kernel_rfl))
  t3 := Tryd.underlying3
  a3 := Tryd.isAgg3
  z3 := Tryd.sizeOf3
  v3 := Tryd.zeroValue3
  t4 := Tryd.underlying4
  a4 := Tryd.isAgg4
  z4 := Tryd.sizeOf4
  v4 := Tryd.zeroValue4
  t5 := Tryd.underlying5
  a5 := Tryd.isAgg5
  z5 := Tryd.sizeOf5
  v5 := Tryd.zeroValue5
  t9 := Tryd.underlying9
  a9 := Tryd.isAgg9
  z9 := Tryd.sizeOf9
  v9 := Tryd.zeroValue9
  t46 := Tryd.underlying87
  a46 := Tryd.isAgg87
  z46 := Tryd.sizeOf87
  v46 := Tryd.zeroValue87
  t51 := Tryd.underlying114
  a51 := Tryd.isAgg114
  z51 := Tryd.sizeOf114
  v51 := Tryd.zeroValue114
  t146 := Tryd.underlying115
  a146 := Tryd.isAgg115
  z146 := Tryd.sizeOf115
  v146 := Tryd.zeroValue115
  g1 := by kernel_rfl
  i3 := by kernel_rfl
  i4 := by kernel_rfl
  i5 := by kernel_rfl
  i9 := by kernel_rfl
  i46 := by kernel_rfl
  i51 := by kernel_rfl
  i146 := by kernel_rfl
  m1 := by kernel_rfl
  s1_3 := fun w h => Go.Proofs.cell_of_shapedOpen_int (zero := #[.int .i64 0]) (t := 3) h (of_decide_eq_true (by kernel_rfl)) (by kernel_rfl) rfl (by kernel_rfl) (by kernel_rfl) Tryd.underlying3 }
open Go.RowKit Go.Lib in
theorem Tryd.strings_Index_shaped (s sub : ByteArray) (w : World) (h : w.ShapedOpen Tryd.prog) (hs : s.size < 4294967281) :
    Calls Tryd.prog 60 #[.string s, .string sub] w fun e w' => e = .returned (.int .i64 (Lib.index s.data.toList sub.data.toList)) ∧ w' = w := Any.strings_Index_shaped Tryd.laysM143 s sub w h hs
def Tryd.laysM138_ren : Go.Shelf.Ren := ⟨fun | 138 => 59 | 195 => 71 | 218 => 73 | 143 => 60 | 219 => 74 | 217 => 80 | 225 => 81 | 224 => 82 | 267 => 83 | 266 => 86 | 314 => 87 | n => n, fun | 9 => 9 | 3 => 3 | 4 => 4 | 5 => 5 | 0 => 0 | 46 => 87 | 146 => 115 | 51 => 114 | n => n, fun | 1 => 0 | n => n⟩
theorem Tryd.laysM138 : Go.Proofs.LaysM.n138 Tryd.prog Tryd.laysM138_ren := {
  mixed := by kernel_rfl
  f138 := Tryd.func59.trans (congrArg some (by kernel_rfl))
  f143 := Tryd.func60.trans (congrArg some (by kernel_rfl))
  f195 := Tryd.func71.trans (congrArg some (by kernel_rfl))
  f217 := Tryd.func80.trans (congrArg some (by kernel_rfl))
  f218 := Tryd.func73.trans (congrArg some (by kernel_rfl))
  f219 := Tryd.func74.trans (congrArg some (by kernel_rfl))
  f224 := Tryd.func82.trans (congrArg some (by kernel_rfl))
  f225 := Tryd.func81.trans (congrArg some (by kernel_rfl))
  f266 := Tryd.func86.trans (congrArg some (by kernel_rfl))
  f267 := Tryd.func83.trans (congrArg some (by kernel_rfl))
  f314 := Tryd.func87.trans (congrArg some (by kernel_rfl))
  t0 := Tryd.underlying0
  a0 := Tryd.isAgg0
  z0 := Tryd.sizeOf0
  v0 := Tryd.zeroValue0
  t3 := Tryd.underlying3
  a3 := Tryd.isAgg3
  z3 := Tryd.sizeOf3
  v3 := Tryd.zeroValue3
  t4 := Tryd.underlying4
  a4 := Tryd.isAgg4
  z4 := Tryd.sizeOf4
  v4 := Tryd.zeroValue4
  t5 := Tryd.underlying5
  a5 := Tryd.isAgg5
  z5 := Tryd.sizeOf5
  v5 := Tryd.zeroValue5
  t9 := Tryd.underlying9
  a9 := Tryd.isAgg9
  z9 := Tryd.sizeOf9
  v9 := Tryd.zeroValue9
  t46 := Tryd.underlying87
  a46 := Tryd.isAgg87
  z46 := Tryd.sizeOf87
  v46 := Tryd.zeroValue87
  t51 := Tryd.underlying114
  a51 := Tryd.isAgg114
  z51 := Tryd.sizeOf114
  v51 := Tryd.zeroValue114
  t146 := Tryd.underlying115
  a146 := Tryd.isAgg115
  z146 := Tryd.sizeOf115
  v146 := Tryd.zeroValue115
  g1 := by kernel_rfl
  i0 := by kernel_rfl
  i3 := by kernel_rfl
  i4 := by kernel_rfl
  i5 := by kernel_rfl
  i9 := by kernel_rfl
  i46 := by kernel_rfl
  i51 := by kernel_rfl
  i146 := by kernel_rfl
  m1 := by kernel_rfl
  s1_3 := fun w h => Go.Proofs.cell_of_shapedOpen_int (zero := #[.int .i64 0]) (t := 3) h (of_decide_eq_true (by kernel_rfl)) (by kernel_rfl) rfl (by kernel_rfl) (by kernel_rfl) Tryd.underlying3 }
open Go.RowKit Go.Lib in
theorem Tryd.strings_Count_shaped (s sub : ByteArray) (w : World) (h : w.ShapedOpen Tryd.prog) (hs : s.size < 4294967281) (h2 : 2 ≤ sub.size) :
    Calls Tryd.prog 59 #[.string s, .string sub] w fun e w' => e = .returned (.int .i64 (Lib.countB s sub)) ∧ w' = w := Any.strings_Count_shaped Tryd.laysM138 s sub w h hs h2
def Tryd.lays206_ren : Go.Shelf.Ren := ⟨fun | 206 => 57 | n => n, fun | 9 => 9 | 4 => 4 | 3 => 3 | n => n, fun | n => n⟩
theorem Tryd.lays206 : Go.Proofs.Lays.n206 Tryd.prog Tryd.lays206_ren := {
  mixed := by kernel_rfl
  f206 := Tryd.func57.trans (congrArg some (by kernel_rfl))
  t3 := Tryd.underlying3
  a3 := Tryd.isAgg3
  z3 := Tryd.sizeOf3
  v3 := Tryd.zeroValue3
  t4 := Tryd.underlying4
  a4 := Tryd.isAgg4
  z4 := Tryd.sizeOf4
  v4 := Tryd.zeroValue4
  t9 := Tryd.underlying9
  a9 := Tryd.isAgg9
  z9 := Tryd.sizeOf9
  v9 := Tryd.zeroValue9 }
open Go.RowKit Go.Lib in
/-- internal/stringslite.HasPrefix (what strings.HasPrefix calls). (LAID: no walk: one application.) -/
theorem Tryd.stringslite_HasPrefix (s p : ByteArray) (w : World) :
    Calls Tryd.prog 57 #[.string s, .string p] w fun e w' => e = .returned (.bool (Lib.hasPrefix s.data.toList p.data.toList)) ∧ w' = w := Any.stringslite_HasPrefix Tryd.lays206 s p w
open Go.RowKit Go.Lib in
/-- strings.Count at whatever sep that is not empty: the two roads under one statement. (LAID: no walk: one application.) -/
theorem Tryd.strings_Count_any (s sep : ByteArray) (m : Int) (w : World) (hs : s.size < 4294967281) (hm : w.cell? ⟨0, 0, none⟩ = some (.int .i64 m)) (h1 : 1 ≤ sep.size) :
    Calls Tryd.prog 59 #[.string s, .string sep] w fun e w' => e = .returned (.int .i64 (Lib.countB s sep)) ∧ w' = w := Any.strings_Count_any Tryd.lays138 s sep m w hs hm h1
def Tryd.lays221_ren : Go.Shelf.Ren := ⟨fun | 221 => 45 | 268 => 58 | 138 => 59 | 143 => 60 | 195 => 71 | 197 => 72 | 218 => 73 | 219 => 74 | 260 => 79 | 217 => 80 | 225 => 81 | 224 => 82 | 267 => 83 | 266 => 86 | 314 => 87 | n => n, fun | 9 => 9 | 3 => 3 | 31 => 50 | 4 => 4 | 0 => 0 | 105 => 103 | 21 => 21 | 5 => 5 | 46 => 87 | 119 => 110 | 139 => 113 | 138 => 112 | 146 => 115 | 51 => 114 | n => n, fun | 1 => 0 | 3 => 1 | 4 => 2 | n => n⟩
theorem Tryd.lays221 : Go.Proofs.Lays.n221 Tryd.prog Tryd.lays221_ren := {
  mixed := by kernel_rfl
  f138 := Tryd.func59.trans (congrArg some (by kernel_rfl))
  f143 := Tryd.func60.trans (congrArg some (by kernel_rfl))
  f195 := Tryd.func71.trans (congrArg some (by kernel_rfl))
  f197 := Tryd.func72.trans (congrArg some (by kernel_rfl))
  f217 := Tryd.func80.trans (congrArg some (by kernel_rfl))
  f218 := Tryd.func73.trans (congrArg some (by kernel_rfl))
  f219 := Tryd.func74.trans (congrArg some (by kernel_rfl))
  f221 := Tryd.func45.trans (congrArg some (by kernel_rfl))
  f224 := Tryd.func82.trans (congrArg some (by kernel_rfl))
  f225 := Tryd.func81.trans (congrArg some (by kernel_rfl))
  f260 := Tryd.func79.trans (congrArg some (by kernel_rfl))
  f266 := Tryd.func86.trans (congrArg some (by kernel_rfl))
  f267 := Tryd.func83.trans (congrArg some (by kernel_rfl))
  f268 := Tryd.func58.trans (congrArg some (by kernel_rfl))
  f314 := Tryd.func87.trans (congrArg some (by kernel_rfl))
  t0 := Tryd.underlying0
  a0 := Tryd.isAgg0
  z0 := Tryd.sizeOf0
  v0 := Tryd.zeroValue0
  t3 := Tryd.underlying3
  a3 := Tryd.isAgg3
  z3 := Tryd.sizeOf3
  v3 := Tryd.zeroValue3
  t4 := Tryd.underlying4
  a4 := Tryd.isAgg4
  z4 := Tryd.sizeOf4
  v4 := Tryd.zeroValue4
  t5 := Tryd.underlying5
  a5 := Tryd.isAgg5
  z5 := Tryd.sizeOf5
  v5 := Tryd.zeroValue5
  t9 := Tryd.underlying9
  a9 := Tryd.isAgg9
  z9 := Tryd.sizeOf9
  v9 := Tryd.zeroValue9
  t21 := Tryd.underlying21
  a21 := Tryd.isAgg21
  z21 := Tryd.sizeOf21
  v21 := Tryd.zeroValue21
  t31 := Tryd.underlying50
  a31 := Tryd.isAgg50
  z31 := Tryd.sizeOf50
  v31 := Tryd.zeroValue50
  t46 := Tryd.underlying87
  a46 := Tryd.isAgg87
  z46 := Tryd.sizeOf87
  v46 := Tryd.zeroValue87
  t51 := Tryd.underlying114
  a51 := Tryd.isAgg114
  z51 := Tryd.sizeOf114
  v51 := Tryd.zeroValue114
  t105 := Tryd.underlying103
  a105 := Tryd.isAgg103
  z105 := Tryd.sizeOf103
  v105 := Tryd.zeroValue103
  t119 := Tryd.underlying110
  a119 := Tryd.isAgg110
  z119 := Tryd.sizeOf110
  t138 := Tryd.underlying112
  a138 := Tryd.isAgg112
  z138 := Tryd.sizeOf112
  v138 := Tryd.zeroValue112
  t139 := Tryd.underlying113
  a139 := Tryd.isAgg113
  z139 := Tryd.sizeOf113
  v139 := Tryd.zeroValue113
  t146 := Tryd.underlying115
  a146 := Tryd.isAgg115
  z146 := Tryd.sizeOf115
  v146 := Tryd.zeroValue115
  g1 := by kernel_rfl
  g3 := by kernel_rfl
  g4 := by kernel_rfl }
open Go.RowKit Go.Lib in
theorem Tryd.strings_genSplit (s sep : ByteArray) (sv : Nat) (n : Int) (N : Nat) (m : Int) (w : World) (hs : s.size < 4294967281) (hm : w.cell? ⟨0, 0, none⟩ = some (.int .i64 m)) (h1 : 1 ≤ sep.size) (hsv : sv ≤ sep.size) (hn0 : n ≠ 0) (hn63 : n ≤ 9223372036854775807) (hN : (N : Int) = min (if n < 0 then (Lib.countB s sep : Int) + 1 else n) ((s.size : Int) + 1)) :
    Calls Tryd.prog 45 #[.string s, .string sep, .int .i64 sv, .int .i64 n] w fun e w' =>
      e = .returned (.slice (some ⟨w.heap.size, 0, none⟩) (Lib.splitB sep sv (N - 1) s).length N) ∧ w' = w.alloc (.cells (Lib.cellsOf (Lib.splitB sep sv (N - 1) s) N) 9) := Any.strings_genSplit Tryd.lays221 (by kernel_rfl) s sep sv n N m w hs hm h1 hsv hn0 hn63 hN
def Tryd.lays146_ren : Go.Shelf.Ren := ⟨fun | 146 => 31 | 221 => 45 | 268 => 58 | 138 => 59 | 143 => 60 | 195 => 71 | 197 => 72 | 218 => 73 | 219 => 74 | 260 => 79 | 217 => 80 | 225 => 81 | 224 => 82 | 267 => 83 | 266 => 86 | 314 => 87 | n => n, fun | 9 => 9 | 31 => 50 | 3 => 3 | 4 => 4 | 0 => 0 | 105 => 103 | 21 => 21 | 5 => 5 | 46 => 87 | 119 => 110 | 139 => 113 | 138 => 112 | 146 => 115 | 51 => 114 | n => n, fun | 1 => 0 | 3 => 1 | 4 => 2 | n => n⟩
theorem Tryd.lays146 : Go.Proofs.Lays.n146 Tryd.prog Tryd.lays146_ren := {
  mixed := by kernel_rfl
  f138 := Tryd.func59.trans (congrArg some (by kernel_rfl))
  f143 := Tryd.func60.trans (congrArg some (by kernel_rfl))
  f146 := Tryd.func31.trans (congrArg some (by kernel_rfl))
  f195 := Tryd.func71.trans (congrArg some (by kernel_rfl))
  f197 := Tryd.func72.trans (congrArg some (by kernel_rfl))
  f217 := Tryd.func80.trans (congrArg some (by kernel_rfl))
  f218 := Tryd.func73.trans (congrArg some (by kernel_rfl))
  f219 := Tryd.func74.trans (congrArg some (by kernel_rfl))
  f221 := Tryd.func45.trans (congrArg some (by kernel_rfl))
  f224 := Tryd.func82.trans (congrArg some (by kernel_rfl))
  f225 := Tryd.func81.trans (congrArg some (by kernel_rfl))
  f260 := Tryd.func79.trans (congrArg some (by kernel_rfl))
  f266 := Tryd.func86.trans (congrArg some (by kernel_rfl))
  f267 := Tryd.func83.trans (congrArg some (by kernel_rfl))
  f268 := Tryd.func58.trans (congrArg some (by kernel_rfl))
  f314 := Tryd.func87.trans (congrArg some (by kernel_rfl))
  t0 := Tryd.underlying0
  a0 := Tryd.isAgg0
  z0 := Tryd.sizeOf0
  v0 := Tryd.zeroValue0
  t3 := Tryd.underlying3
  a3 := Tryd.isAgg3
  z3 := Tryd.sizeOf3
  v3 := Tryd.zeroValue3
  t4 := Tryd.underlying4
  a4 := Tryd.isAgg4
  z4 := Tryd.sizeOf4
  v4 := Tryd.zeroValue4
  t5 := Tryd.underlying5
  a5 := Tryd.isAgg5
  z5 := Tryd.sizeOf5
  v5 := Tryd.zeroValue5
  t9 := Tryd.underlying9
  a9 := Tryd.isAgg9
  z9 := Tryd.sizeOf9
  v9 := Tryd.zeroValue9
  t21 := Tryd.underlying21
  a21 := Tryd.isAgg21
  z21 := Tryd.sizeOf21
  v21 := Tryd.zeroValue21
  t31 := Tryd.underlying50
  a31 := Tryd.isAgg50
  z31 := Tryd.sizeOf50
  v31 := Tryd.zeroValue50
  t46 := Tryd.underlying87
  a46 := Tryd.isAgg87
  z46 := Tryd.sizeOf87
  v46 := Tryd.zeroValue87
  t51 := Tryd.underlying114
  a51 := Tryd.isAgg114
  z51 := Tryd.sizeOf114
  v51 := Tryd.zeroValue114
  t105 := Tryd.underlying103
  a105 := Tryd.isAgg103
  z105 := Tryd.sizeOf103
  v105 := Tryd.zeroValue103
  t119 := Tryd.underlying110
  a119 := Tryd.isAgg110
  z119 := Tryd.sizeOf110
  t138 := Tryd.underlying112
  a138 := Tryd.isAgg112
  z138 := Tryd.sizeOf112
  v138 := Tryd.zeroValue112
  t139 := Tryd.underlying113
  a139 := Tryd.isAgg113
  z139 := Tryd.sizeOf113
  v139 := Tryd.zeroValue113
  t146 := Tryd.underlying115
  a146 := Tryd.isAgg115
  z146 := Tryd.sizeOf115
  v146 := Tryd.zeroValue115
  g1 := by kernel_rfl
  g3 := by kernel_rfl
  g4 := by kernel_rfl }
open Go.RowKit Go.Lib in
/-- strings.Split. (LAID: no walk: one application.) -/
theorem Tryd.strings_Split (s sep : ByteArray) (m : Int) (w : World) (hs : s.size < 4294967281) (hm : w.cell? ⟨0, 0, none⟩ = some (.int .i64 m)) (h1 : 1 ≤ sep.size) :
    Calls Tryd.prog 31 #[.string s, .string sep] w fun e w' =>
      e = .returned (.slice (some ⟨w.heap.size, 0, none⟩) (Lib.countB s sep + 1) (Lib.countB s sep + 1)) ∧ w' = w.alloc (.cells ((Lib.splitB sep 0 (Lib.countB s sep) s).map Value.string).toArray 9) := Any.strings_Split Tryd.lays146 (by kernel_rfl) s sep m w hs hm h1
def Tryd.laysM146_ren : Go.Shelf.Ren := ⟨fun | 146 => 31 | 221 => 45 | 268 => 58 | 138 => 59 | 143 => 60 | 195 => 71 | 197 => 72 | 218 => 73 | 219 => 74 | 260 => 79 | 217 => 80 | 225 => 81 | 224 => 82 | 267 => 83 | 266 => 86 | 314 => 87 | n => n, fun | 9 => 9 | 31 => 50 | 3 => 3 | 4 => 4 | 0 => 0 | 105 => 103 | 21 => 21 | 5 => 5 | 46 => 87 | 119 => 110 | 139 => 113 | 138 => 112 | 146 => 115 | 51 => 114 | n => n, fun | 1 => 0 | 3 => 1 | 4 => 2 | n => n⟩
theorem Tryd.laysM146 : Go.Proofs.LaysM.n146 Tryd.prog Tryd.laysM146_ren := {
  mixed := by kernel_rfl
  f138 := Tryd.func59.trans (congrArg some (by kernel_rfl))
  f143 := Tryd.func60.trans (congrArg some (by kernel_rfl))
  f146 := Tryd.func31.trans (congrArg some (by kernel_rfl))
  f195 := Tryd.func71.trans (congrArg some (by kernel_rfl))
  f197 := Tryd.func72.trans (congrArg some (by kernel_rfl))
  f217 := Tryd.func80.trans (congrArg some (by kernel_rfl))
  f218 := Tryd.func73.trans (congrArg some (by kernel_rfl))
  f219 := Tryd.func74.trans (congrArg some (by kernel_rfl))
  f221 := Tryd.func45.trans (congrArg some (by kernel_rfl))
  f224 := Tryd.func82.trans (congrArg some (by kernel_rfl))
  f225 := Tryd.func81.trans (congrArg some (by kernel_rfl))
  f260 := Tryd.func79.trans (congrArg some (by kernel_rfl))
  f266 := Tryd.func86.trans (congrArg some (by kernel_rfl))
  f267 := Tryd.func83.trans (congrArg some (by kernel_rfl))
  f268 := Tryd.func58.trans (congrArg some (by kernel_rfl))
  f314 := Tryd.func87.trans (congrArg some (by kernel_rfl))
  t0 := Tryd.underlying0
  a0 := Tryd.isAgg0
  z0 := Tryd.sizeOf0
  v0 := Tryd.zeroValue0
  t3 := Tryd.underlying3
  a3 := Tryd.isAgg3
  z3 := Tryd.sizeOf3
  v3 := Tryd.zeroValue3
  t4 := Tryd.underlying4
  a4 := Tryd.isAgg4
  z4 := Tryd.sizeOf4
  v4 := Tryd.zeroValue4
  t5 := Tryd.underlying5
  a5 := Tryd.isAgg5
  z5 := Tryd.sizeOf5
  v5 := Tryd.zeroValue5
  t9 := Tryd.underlying9
  a9 := Tryd.isAgg9
  z9 := Tryd.sizeOf9
  v9 := Tryd.zeroValue9
  t21 := Tryd.underlying21
  a21 := Tryd.isAgg21
  z21 := Tryd.sizeOf21
  v21 := Tryd.zeroValue21
  t31 := Tryd.underlying50
  a31 := Tryd.isAgg50
  z31 := Tryd.sizeOf50
  v31 := Tryd.zeroValue50
  t46 := Tryd.underlying87
  a46 := Tryd.isAgg87
  z46 := Tryd.sizeOf87
  v46 := Tryd.zeroValue87
  t51 := Tryd.underlying114
  a51 := Tryd.isAgg114
  z51 := Tryd.sizeOf114
  v51 := Tryd.zeroValue114
  t105 := Tryd.underlying103
  a105 := Tryd.isAgg103
  z105 := Tryd.sizeOf103
  v105 := Tryd.zeroValue103
  t119 := Tryd.underlying110
  a119 := Tryd.isAgg110
  z119 := Tryd.sizeOf110
  t138 := Tryd.underlying112
  a138 := Tryd.isAgg112
  z138 := Tryd.sizeOf112
  v138 := Tryd.zeroValue112
  t139 := Tryd.underlying113
  a139 := Tryd.isAgg113
  z139 := Tryd.sizeOf113
  v139 := Tryd.zeroValue113
  t146 := Tryd.underlying115
  a146 := Tryd.isAgg115
  z146 := Tryd.sizeOf115
  v146 := Tryd.zeroValue115
  g1 := by kernel_rfl
  g3 := by kernel_rfl
  g4 := by kernel_rfl
  i0 := by kernel_rfl
  i3 := by kernel_rfl
  i4 := by kernel_rfl
  i5 := by kernel_rfl
  i9 := by kernel_rfl
  i21 := by kernel_rfl
  i31 := by kernel_rfl
  i46 := by kernel_rfl
  i51 := by kernel_rfl
  i105 := by kernel_rfl
  i138 := by kernel_rfl
  i139 := by kernel_rfl
  i146 := by kernel_rfl
  m1 := by kernel_rfl
  s1_3 := fun w h => Go.Proofs.cell_of_shapedOpen_int (zero := #[.int .i64 0]) (t := 3) h (of_decide_eq_true (by kernel_rfl)) (by kernel_rfl) rfl (by kernel_rfl) (by kernel_rfl) Tryd.underlying3
  m3 := by kernel_rfl
  m4 := by kernel_rfl }
open Go.RowKit Go.Lib in
/-- strings.Split, sep not empty. (LAID: no walk: one application.) -/
theorem Tryd.strings_Split_shaped (s sep : ByteArray) (w : World) (h : w.ShapedOpen Tryd.prog) (hs : s.size < 4294967281) (h1 : 1 ≤ sep.size) :
    Calls Tryd.prog 31 #[.string s, .string sep] w fun e w' =>
      e = .returned (.slice (some ⟨w.heap.size, 0, none⟩) (Lib.countB s sep + 1) (Lib.countB s sep + 1)) ∧ w' = w.alloc (.cells ((Lib.splitB sep 0 (Lib.countB s sep) s).map Value.string).toArray 9) := Any.strings_Split_shaped Tryd.laysM146 s sep w h hs h1
def Tryd.lays197_ren : Go.Shelf.Ren := ⟨fun | 197 => 72 | 260 => 79 | n => n, fun | 9 => 9 | 21 => 21 | 3 => 3 | 4 => 4 | 5 => 5 | 105 => 103 | 119 => 110 | 0 => 0 | 46 => 87 | 139 => 113 | 138 => 112 | n => n, fun | 3 => 1 | 4 => 2 | n => n⟩
theorem Tryd.lays197 : Go.Proofs.Lays.n197 Tryd.prog Tryd.lays197_ren := {
  mixed := by kernel_rfl
  f197 := Tryd.func72.trans (congrArg some (by kernel_rfl))
  f260 := Tryd.func79.trans (congrArg some (by kernel_rfl))
  t0 := Tryd.underlying0
  a0 := Tryd.isAgg0
  z0 := Tryd.sizeOf0
  v0 := Tryd.zeroValue0
  t3 := Tryd.underlying3
  a3 := Tryd.isAgg3
  z3 := Tryd.sizeOf3
  v3 := Tryd.zeroValue3
  t4 := Tryd.underlying4
  a4 := Tryd.isAgg4
  z4 := Tryd.sizeOf4
  v4 := Tryd.zeroValue4
  t5 := Tryd.underlying5
  a5 := Tryd.isAgg5
  z5 := Tryd.sizeOf5
  v5 := Tryd.zeroValue5
  t9 := Tryd.underlying9
  a9 := Tryd.isAgg9
  z9 := Tryd.sizeOf9
  v9 := Tryd.zeroValue9
  t21 := Tryd.underlying21
  a21 := Tryd.isAgg21
  z21 := Tryd.sizeOf21
  v21 := Tryd.zeroValue21
  t46 := Tryd.underlying87
  a46 := Tryd.isAgg87
  z46 := Tryd.sizeOf87
  v46 := Tryd.zeroValue87
  t105 := Tryd.underlying103
  a105 := Tryd.isAgg103
  z105 := Tryd.sizeOf103
  v105 := Tryd.zeroValue103
  t119 := Tryd.underlying110
  a119 := Tryd.isAgg110
  z119 := Tryd.sizeOf110
  t138 := Tryd.underlying112
  a138 := Tryd.isAgg112
  z138 := Tryd.sizeOf112
  v138 := Tryd.zeroValue112
  t139 := Tryd.underlying113
  a139 := Tryd.isAgg113
  z139 := Tryd.sizeOf113
  v139 := Tryd.zeroValue113
  g3 := by kernel_rfl
  g4 := by kernel_rfl }
open Go.RowKit Go.Lib in
/-- unicode/utf8.DecodeRuneInString: "DecodeRuneInString is like DecodeRune but its input is a string.": ("DecodeRune unpacks the first UTF-8 encoding in p and returns the rune and its width in bytes."): WHERE s BEGINS WITH AN ASCII BYTE x: (x, 1). (LAID: no walk: one application.) -/
theorem Tryd.utf8_DecodeRuneInString_ascii (s : ByteArray) (x : UInt8) (w : World) (h0 : s.data.toList[0]? = some x) (hx : x.toNat < 128) :
    Calls Tryd.prog 72 #[.string s] w fun e w' => e = .returned (.tuple #[.int .i32 x.toNat, .int .i64 1]) ∧ w' = w := Any.utf8_DecodeRuneInString_ascii Tryd.lays197 s x w h0 hx
def Tryd.lays152_ren : Go.Shelf.Ren := ⟨fun | 152 => 84 | 137 => 88 | 119 => 89 | 224 => 82 | 225 => 81 | 217 => 80 | 266 => 86 | n => n, fun | 9 => 9 | 21 => 21 | 3 => 3 | 4 => 4 | 5 => 5 | 0 => 0 | 46 => 87 | n => n, fun | n => n⟩
theorem Tryd.lays152 : Go.Proofs.Lays.n152 Tryd.prog Tryd.lays152_ren := {
  mixed := by kernel_rfl
  f119 := Tryd.func89.trans (congrArg some (by kernel_rfl))
  f137 := Tryd.func88.trans (congrArg some (by kernel_rfl))
  f152 := Tryd.func84.trans (congrArg some (by kernel_rfl))
  f217 := Tryd.func80.trans (congrArg some (by kernel_rfl))
  f224 := Tryd.func82.trans (congrArg some (by kernel_rfl))
  f225 := Tryd.func81.trans (congrArg some (by kernel_rfl))
  f266 := Tryd.func86.trans (congrArg some (by kernel_rfl))
  t0 := Tryd.underlying0
  a0 := Tryd.isAgg0
  z0 := Tryd.sizeOf0
  v0 := Tryd.zeroValue0
  t3 := Tryd.underlying3
  a3 := Tryd.isAgg3
  z3 := Tryd.sizeOf3
  v3 := Tryd.zeroValue3
  t4 := Tryd.underlying4
  a4 := Tryd.isAgg4
  z4 := Tryd.sizeOf4
  v4 := Tryd.zeroValue4
  t5 := Tryd.underlying5
  a5 := Tryd.isAgg5
  z5 := Tryd.sizeOf5
  v5 := Tryd.zeroValue5
  t9 := Tryd.underlying9
  a9 := Tryd.isAgg9
  z9 := Tryd.sizeOf9
  v9 := Tryd.zeroValue9
  t21 := Tryd.underlying21
  a21 := Tryd.isAgg21
  z21 := Tryd.sizeOf21
  v21 := Tryd.zeroValue21
  t46 := Tryd.underlying87
  a46 := Tryd.isAgg87
  z46 := Tryd.sizeOf87
  v46 := Tryd.zeroValue87 }
open Go.RowKit Go.Lib in
theorem Tryd.strings_IndexRune_ascii (s : ByteArray) (r : Int) (w : World) (h0 : 0 ≤ r) (h1 : r < 128) :
    Calls Tryd.prog 84 #[.string s, .int .i32 r] w fun e w' => e = .returned (.int .i64 (Lib.indexByte s.data.toList r.toNat.toUInt8)) ∧ w' = w := Any.strings_IndexRune_ascii Tryd.lays152 s r w h0 h1
def Tryd.lays151_ren : Go.Shelf.Ren := ⟨fun | 151 => 76 | 152 => 84 | 137 => 88 | 119 => 89 | 224 => 82 | 225 => 81 | 217 => 80 | 266 => 86 | n => n, fun | 9 => 9 | 21 => 21 | 4 => 4 | 3 => 3 | 5 => 5 | 0 => 0 | 46 => 87 | n => n, fun | n => n⟩
theorem Tryd.lays151 : Go.Proofs.Lays.n151 Tryd.prog Tryd.lays151_ren := {
  mixed := by kernel_rfl
  f119 := Tryd.func89.trans (congrArg some (by kernel_rfl))
  f137 := Tryd.func88.trans (congrArg some (by kernel_rfl))
  f151 := Tryd.func76.trans (congrArg some (by kernel_rfl))
  f152 := Tryd.func84.trans (congrArg some (by kernel_rfl))
  f217 := Tryd.func80.trans (congrArg some (by kernel_rfl))
  f224 := Tryd.func82.trans (congrArg some (by kernel_rfl))
  f225 := Tryd.func81.trans (congrArg some (by kernel_rfl))
  f266 := Tryd.func86.trans (congrArg some (by kernel_rfl))
  t0 := Tryd.underlying0
  a0 := Tryd.isAgg0
  z0 := Tryd.sizeOf0
  v0 := Tryd.zeroValue0
  t3 := Tryd.underlying3
  a3 := Tryd.isAgg3
  z3 := Tryd.sizeOf3
  v3 := Tryd.zeroValue3
  t4 := Tryd.underlying4
  a4 := Tryd.isAgg4
  z4 := Tryd.sizeOf4
  v4 := Tryd.zeroValue4
  t5 := Tryd.underlying5
  a5 := Tryd.isAgg5
  z5 := Tryd.sizeOf5
  v5 := Tryd.zeroValue5
  t9 := Tryd.underlying9
  a9 := Tryd.isAgg9
  z9 := Tryd.sizeOf9
  v9 := Tryd.zeroValue9
  t21 := Tryd.underlying21
  a21 := Tryd.isAgg21
  z21 := Tryd.sizeOf21
  v21 := Tryd.zeroValue21
  t46 := Tryd.underlying87
  a46 := Tryd.isAgg87
  z46 := Tryd.sizeOf87
  v46 := Tryd.zeroValue87 }
open Go.RowKit Go.Lib in
theorem Tryd.strings_ContainsRune_ascii (s : ByteArray) (r : Int) (w : World) (h0 : 0 ≤ r) (h1 : r < 128) :
    Calls Tryd.prog 76 #[.string s, .int .i32 r] w fun e w' => e = .returned (.bool (decide (0 ≤ Lib.indexByte s.data.toList r.toNat.toUInt8))) ∧ w' = w := Any.strings_ContainsRune_ascii Tryd.lays151 s r w h0 h1
open Go.RowKit Go.Lib in
theorem Tryd.utf8_RuneCountInString_ascii (s : ByteArray) (w : World) (hs : s.size < 4294967281) (hascii : ∀ (j : Nat) b, s.data.toList[j]? = some b → b.toNat < 128) :
    Calls Tryd.prog 71 #[.string s] w fun e w' => e = .returned (.int .i64 s.size) ∧ w' = w.iter s s.size := Any.utf8_RuneCountInString_ascii Tryd.lays195 s w hs hascii
def Tryd.lays227_ren : Go.Shelf.Ren := ⟨fun | 227 => 63 | n => n, fun | 9 => 9 | 116 => 96 | 4 => 4 | 0 => 0 | 3 => 3 | 5 => 5 | n => n, fun | n => n⟩
theorem Tryd.lays227 : Go.Proofs.Lays.n227 Tryd.prog Tryd.lays227_ren := {
  mixed := by kernel_rfl
  f227 := Tryd.func63.trans (congrArg some (by kernel_rfl))
  t0 := Tryd.underlying0
  a0 := Tryd.isAgg0
  z0 := Tryd.sizeOf0
  v0 := Tryd.zeroValue0
  t3 := Tryd.underlying3
  a3 := Tryd.isAgg3
  z3 := Tryd.sizeOf3
  v3 := Tryd.zeroValue3
  t4 := Tryd.underlying4
  a4 := Tryd.isAgg4
  z4 := Tryd.sizeOf4
  v4 := Tryd.zeroValue4
  t5 := Tryd.underlying5
  a5 := Tryd.isAgg5
  z5 := Tryd.sizeOf5
  v5 := Tryd.zeroValue5
  t9 := Tryd.underlying9
  a9 := Tryd.isAgg9
  z9 := Tryd.sizeOf9
  v9 := Tryd.zeroValue9
  t116 := Tryd.underlying96
  a116 := Tryd.isAgg96
  z116 := Tryd.sizeOf96 }
open Go.RowKit Go.Lib in
theorem Tryd.strings_makeASCIISet (hv116 : ∀ w, (zeroValue 96).run Tryd.prog w = .ok (.agg (Array.replicate 256 (.bool false))) w) (chars : ByteArray) (w : World) (hs : chars.size < 4294967281) (hascii : ∀ (j : Nat) b, chars.data.toList[j]? = some b → b.toNat < 128) :
    Calls Tryd.prog 63 #[.string chars] w fun e w' => e = .returned (.tuple #[.agg (Lib.setCells chars.data.toList), .bool true]) ∧ w' = w.alloc (.cells (Lib.setCells chars.data.toList) 96) := Any.strings_makeASCIISet Tryd.lays227 hv116 (by kernel_rfl) chars w hs hascii
def Tryd.lays228_ren : Go.Shelf.Ren := ⟨fun | 228 => 75 | n => n, fun | 124 => 100 | 5 => 5 | 4 => 4 | 0 => 0 | 116 => 96 | n => n, fun | n => n⟩
theorem Tryd.lays228 : Go.Proofs.Lays.n228 Tryd.prog Tryd.lays228_ren := {
  mixed := by kernel_rfl
  f228 := Tryd.func75.trans (congrArg some (by kernel_rfl))
  t0 := Tryd.underlying0
  a0 := Tryd.isAgg0
  z0 := Tryd.sizeOf0
  v0 := Tryd.zeroValue0
  t4 := Tryd.underlying4
  a4 := Tryd.isAgg4
  z4 := Tryd.sizeOf4
  v4 := Tryd.zeroValue4
  t5 := Tryd.underlying5
  a5 := Tryd.isAgg5
  z5 := Tryd.sizeOf5
  v5 := Tryd.zeroValue5
  t116 := Tryd.underlying96
  a116 := Tryd.isAgg96
  z116 := Tryd.sizeOf96
  t124 := Tryd.underlying100
  a124 := Tryd.isAgg100
  z124 := Tryd.sizeOf100
  v124 := Tryd.zeroValue100 }
open Go.RowKit Go.Lib in
/-- '(as *asciiSet) contains(c)': 'as[c]': the set lies at block b, whole. (LAID: no walk: one application.) -/
theorem Tryd.asciiSet_contains (b : Nat) (x : UInt8) (v : Bool) (w : World) (hc : w.cell? ⟨b, x.toNat, none⟩ = some (.bool v)) :
    Calls Tryd.prog 75 #[.pointer (some ⟨b, 0, none⟩), .int .u8 x.toNat] w fun e w' => e = .returned (.bool v) ∧ w' = w := Any.asciiSet_contains Tryd.lays228 b x v w hc
def Tryd.lays268_ren : Go.Shelf.Ren := ⟨fun | 268 => 58 | 195 => 71 | 197 => 72 | 260 => 79 | n => n, fun | 9 => 9 | 3 => 3 | 31 => 50 | 4 => 4 | 105 => 103 | 21 => 21 | 0 => 0 | 5 => 5 | 119 => 110 | 46 => 87 | 139 => 113 | 138 => 112 | n => n, fun | 3 => 1 | 4 => 2 | n => n⟩
theorem Tryd.lays268 : Go.Proofs.Lays.n268 Tryd.prog Tryd.lays268_ren := {
  mixed := by kernel_rfl
  f195 := Tryd.func71.trans (congrArg some (by kernel_rfl))
  f197 := Tryd.func72.trans (congrArg some (by kernel_rfl))
  f260 := Tryd.func79.trans (congrArg some (by kernel_rfl))
  f268 := Tryd.func58.trans (congrArg some (by kernel_rfl))
  t0 := Tryd.underlying0
  a0 := Tryd.isAgg0
  z0 := Tryd.sizeOf0
  v0 := Tryd.zeroValue0
  t3 := Tryd.underlying3
  a3 := Tryd.isAgg3
  z3 := Tryd.sizeOf3
  v3 := Tryd.zeroValue3
  t4 := Tryd.underlying4
  a4 := Tryd.isAgg4
  z4 := Tryd.sizeOf4
  v4 := Tryd.zeroValue4
  t5 := Tryd.underlying5
  a5 := Tryd.isAgg5
  z5 := Tryd.sizeOf5
  v5 := Tryd.zeroValue5
  t9 := Tryd.underlying9
  a9 := Tryd.isAgg9
  z9 := Tryd.sizeOf9
  v9 := Tryd.zeroValue9
  t21 := Tryd.underlying21
  a21 := Tryd.isAgg21
  z21 := Tryd.sizeOf21
  v21 := Tryd.zeroValue21
  t31 := Tryd.underlying50
  a31 := Tryd.isAgg50
  z31 := Tryd.sizeOf50
  v31 := Tryd.zeroValue50
  t46 := Tryd.underlying87
  a46 := Tryd.isAgg87
  z46 := Tryd.sizeOf87
  v46 := Tryd.zeroValue87
  t105 := Tryd.underlying103
  a105 := Tryd.isAgg103
  z105 := Tryd.sizeOf103
  v105 := Tryd.zeroValue103
  t119 := Tryd.underlying110
  a119 := Tryd.isAgg110
  z119 := Tryd.sizeOf110
  t138 := Tryd.underlying112
  a138 := Tryd.isAgg112
  z138 := Tryd.sizeOf112
  v138 := Tryd.zeroValue112
  t139 := Tryd.underlying113
  a139 := Tryd.isAgg113
  z139 := Tryd.sizeOf113
  v139 := Tryd.zeroValue113
  g3 := by kernel_rfl
  g4 := by kernel_rfl }
open Go.RowKit Go.Lib in
theorem Tryd.strings_explode_all (s : ByteArray) (n : Int) (w : World) (hn : n < 0) (hs : s.size < 4294967281) (hascii : ∀ (j : Nat) b, s.data.toList[j]? = some b → b.toNat < 128) :
    Calls Tryd.prog 58 #[.string s, .int .i64 n] w fun e w' =>
      e = .returned (.slice (some ⟨(w.iter s s.size).heap.size, 0, none⟩) s.size s.size) ∧ w' = (w.iter s s.size).alloc (.cells ((Lib.charsB s).map Value.string).toArray 9) := Any.strings_explode_all Tryd.lays268 (by kernel_rfl) s n w hn hs hascii
open Go.RowKit Go.Lib in
/-- strings.genSplit at sep == "", n < 0: 'return explode(s, n)'. (LAID: no walk: one application.) -/
theorem Tryd.strings_genSplit_chars (s sep : ByteArray) (sv n : Int) (w : World) (h0 : sep.size = 0) (hn : n < 0) (hs : s.size < 4294967281) (hascii : ∀ (j : Nat) b, s.data.toList[j]? = some b → b.toNat < 128) :
    Calls Tryd.prog 45 #[.string s, .string sep, .int .i64 sv, .int .i64 n] w fun e w' =>
      e = .returned (.slice (some ⟨(w.iter s s.size).heap.size, 0, none⟩) s.size s.size) ∧ w' = (w.iter s s.size).alloc (.cells ((Lib.charsB s).map Value.string).toArray 9) := Any.strings_genSplit_chars Tryd.lays221 (by kernel_rfl) s sep sv n w h0 hn hs hascii
open Go.RowKit Go.Lib in
/-- strings.Split(s, ""), s ASCII: a piece a byte. (LAID: no walk: one application.) -/
theorem Tryd.strings_Split_chars (s sep : ByteArray) (w : World) (h0 : sep.size = 0) (hs : s.size < 4294967281) (hascii : ∀ (j : Nat) b, s.data.toList[j]? = some b → b.toNat < 128) :
    Calls Tryd.prog 31 #[.string s, .string sep] w fun e w' =>
      e = .returned (.slice (some ⟨(w.iter s s.size).heap.size, 0, none⟩) s.size s.size) ∧ w' = (w.iter s s.size).alloc (.cells ((Lib.charsB s).map Value.string).toArray 9) := Any.strings_Split_chars Tryd.lays146 (by kernel_rfl) s sep w h0 hs hascii
def Tryd.lays260_ren : Go.Shelf.Ren := ⟨fun | 260 => 79 | n => n, fun | 9 => 9 | 21 => 21 | 3 => 3 | 4 => 4 | 5 => 5 | 119 => 110 | 0 => 0 | 46 => 87 | 139 => 113 | 138 => 112 | n => n, fun | 3 => 1 | 4 => 2 | n => n⟩
theorem Tryd.lays260 : Go.Proofs.Lays.n260 Tryd.prog Tryd.lays260_ren := {
  mixed := by kernel_rfl
  f260 := Tryd.func79.trans (congrArg some (by kernel_rfl))
  t0 := Tryd.underlying0
  a0 := Tryd.isAgg0
  z0 := Tryd.sizeOf0
  v0 := Tryd.zeroValue0
  t3 := Tryd.underlying3
  a3 := Tryd.isAgg3
  z3 := Tryd.sizeOf3
  v3 := Tryd.zeroValue3
  t4 := Tryd.underlying4
  a4 := Tryd.isAgg4
  z4 := Tryd.sizeOf4
  v4 := Tryd.zeroValue4
  t5 := Tryd.underlying5
  a5 := Tryd.isAgg5
  z5 := Tryd.sizeOf5
  v5 := Tryd.zeroValue5
  t9 := Tryd.underlying9
  a9 := Tryd.isAgg9
  z9 := Tryd.sizeOf9
  v9 := Tryd.zeroValue9
  t21 := Tryd.underlying21
  a21 := Tryd.isAgg21
  z21 := Tryd.sizeOf21
  v21 := Tryd.zeroValue21
  t46 := Tryd.underlying87
  a46 := Tryd.isAgg87
  z46 := Tryd.sizeOf87
  v46 := Tryd.zeroValue87
  t119 := Tryd.underlying110
  a119 := Tryd.isAgg110
  z119 := Tryd.sizeOf110
  t138 := Tryd.underlying112
  a138 := Tryd.isAgg112
  z138 := Tryd.sizeOf112
  v138 := Tryd.zeroValue112
  t139 := Tryd.underlying113
  a139 := Tryd.isAgg113
  z139 := Tryd.sizeOf113
  v139 := Tryd.zeroValue113
  g3 := by kernel_rfl
  g4 := by kernel_rfl }
open Go.RowKit Go.Lib in
theorem Tryd.utf8_decodeRuneInStringSlow (s : ByteArray) (w : World) (hT : Lib.Utf8Tabs 1 2 w) :
    Calls Tryd.prog 79 #[.string s] w fun e w' => e = .returned (.tuple #[.int .i32 (Lib.decodeGo s).1, .int .i64 (Lib.decodeGo s).2]) ∧ Below w.heap.size w w' := Any.utf8_decodeRuneInStringSlow Tryd.lays260 s w hT
open Go.RowKit Go.Lib in
/-- **unicode/utf8.DecodeRuneInString AT EVERY STRING.** (LAID: no walk: one application.) -/
theorem Tryd.utf8_DecodeRuneInString (s : ByteArray) (w : World) (hT : Lib.Utf8Tabs 1 2 w) :
    Calls Tryd.prog 72 #[.string s] w fun e w' => e = .returned (.tuple #[.int .i32 (Lib.decodeGo s).1, .int .i64 (Lib.decodeGo s).2]) ∧ Below w.heap.size w w' := Any.utf8_DecodeRuneInString Tryd.lays197 s w hT
def Tryd.lays271_ren : Go.Shelf.Ren := ⟨fun | 271 => 77 | 120 => 85 | 197 => 72 | 260 => 79 | n => n, fun | 9 => 9 | 21 => 21 | 3 => 3 | 4 => 4 | 5 => 5 | 105 => 103 | 119 => 110 | 0 => 0 | 46 => 87 | 139 => 113 | 138 => 112 | n => n, fun | 3 => 1 | 4 => 2 | n => n⟩
theorem Tryd.lays271 : Go.Proofs.Lays.n271 Tryd.prog Tryd.lays271_ren := {
  mixed := by kernel_rfl
  f120 := Tryd.func85.trans (congrArg some (by kernel_rfl))
  f197 := Tryd.func72.trans (congrArg some (by kernel_rfl))
  f260 := Tryd.func79.trans (congrArg some (by kernel_rfl))
  f271 := Tryd.func77.trans (congrArg some (by kernel_rfl))
  t0 := Tryd.underlying0
  a0 := Tryd.isAgg0
  z0 := Tryd.sizeOf0
  v0 := Tryd.zeroValue0
  t3 := Tryd.underlying3
  a3 := Tryd.isAgg3
  z3 := Tryd.sizeOf3
  v3 := Tryd.zeroValue3
  t4 := Tryd.underlying4
  a4 := Tryd.isAgg4
  z4 := Tryd.sizeOf4
  v4 := Tryd.zeroValue4
  t5 := Tryd.underlying5
  a5 := Tryd.isAgg5
  z5 := Tryd.sizeOf5
  v5 := Tryd.zeroValue5
  t9 := Tryd.underlying9
  a9 := Tryd.isAgg9
  z9 := Tryd.sizeOf9
  v9 := Tryd.zeroValue9
  t21 := Tryd.underlying21
  a21 := Tryd.isAgg21
  z21 := Tryd.sizeOf21
  v21 := Tryd.zeroValue21
  t46 := Tryd.underlying87
  a46 := Tryd.isAgg87
  z46 := Tryd.sizeOf87
  v46 := Tryd.zeroValue87
  t105 := Tryd.underlying103
  a105 := Tryd.isAgg103
  z105 := Tryd.sizeOf103
  v105 := Tryd.zeroValue103
  t119 := Tryd.underlying110
  a119 := Tryd.isAgg110
  z119 := Tryd.sizeOf110
  t138 := Tryd.underlying112
  a138 := Tryd.isAgg112
  z138 := Tryd.sizeOf112
  v138 := Tryd.zeroValue112
  t139 := Tryd.underlying113
  a139 := Tryd.isAgg113
  z139 := Tryd.sizeOf113
  v139 := Tryd.zeroValue113
  g3 := by kernel_rfl
  g4 := by kernel_rfl }
open Go.RowKit Go.Lib in
/-- **unicode/utf8.DecodeLastRuneInString AT EVERY STRING.** (LAID: no walk: one application.) -/
theorem Tryd.utf8_DecodeLastRuneInString (s : ByteArray) (w : World) (hs : s.size ≤ 9223372036854775807) (hT : Lib.Utf8Tabs 1 2 w) :
    Calls Tryd.prog 77 #[.string s] w fun e w' => e = .returned (.tuple #[.int .i32 (Lib.decodeLastL s.data.toList).1, .int .i64 (Lib.decodeLastL s.data.toList).2]) ∧ Below w.heap.size w w' := Any.utf8_DecodeLastRuneInString Tryd.lays271 s w hs hT
end Go.Proofs

namespace Go.Proofs.YtkcpcjhjemedpaaDoor
open Go.Sy
set_option maxRecDepth 100000
set_option linter.all false
def stL (b : List UInt8) : List D := [.st b]
theorem arr2 {vs : Array Value} (h : vs.size = 2) : vs = #[vs.getD 0 undef, vs.getD 1 undef] := by
  apply Array.ext
  · simpa using h
  · intro i h1 h2
    have : i = 0 ∨ i = 1 := by simp at h2; omega
    rcases this with rfl | rfl <;> simp [Array.getD, h]
theorem join_ok (xs : List (List UInt8)) (sep : List UInt8) (hn : xs.length ≤ 1000000) (hl : (Lib.join xs sep).length ≤ 140737488355328) : FnC Tryd.prog 20 [.d (.fs 1 (xs.map stL)), .d (.st sep)] (.d (.st (Lib.join xs sep))) := by
  refine ⟨rfl, fun g w vs hfz hsz hav => .inl ⟨Tryd.call20 _ _, ?_⟩⟩
  have ha := hav 0 (by simp)
  have hb := hav 1 (by simp)
  rw [arr2 hsz]
  simp only [List.getElem_cons_zero, List.getElem_cons_succ] at ha hb
  generalize vs.getD 0 undef = a at ha
  generalize vs.getD 1 undef = b at hb
  cases hb with | d _ _ hb => ?_
  cases hb with | st => ?_
  cases ha with | d _ _ ha => ?_
  generalize hes : xs.map stL = es at ha
  cases ha with
  | fs0 _ ad cap =>
    have : xs = [] := by simpa using hes
    subst this
    refine (Tryd.strings_Join_none ad cap _ w).mono ?_
    rintro e w' ⟨rfl, rfl⟩
    exact ⟨_, g, rfl, .d _ _ (.st []), fun _ _ _ h => h, fun _ _ _ h => .inl h, hfz, Nat.le_refl _, fun _ _ => rfl, rfl, rfl, rfl⟩
  | fs _ _ b off len cap f hlen hc hs hF hr =>
    by_cases h0 : xs = []
    · subst h0
      have hl0 : len = 0 := by rw [← hlen, ← hes]; rfl
      subst hl0
      refine (Tryd.strings_Join_none _ cap _ w).mono ?_
      rintro e w' ⟨rfl, rfl⟩
      exact ⟨_, g, rfl, .d _ _ (.st []), fun _ _ _ h => h, fun _ _ _ h => .inl h, hfz, Nat.le_refl _, fun _ _ => rfl, rfl, rfl, rfl⟩
    have hxl : xs.length = len := by rw [← hlen, ← hes]; simp
    have hval : ∀ j (hj : j < xs.length), f j 0 = .string ⟨xs[j].toArray⟩ := fun j hj => by
      subst hes
      have hr := hr j (by simpa using hj) 0 (by simp [stL])
      simp only [List.getElem_map, stL, List.getElem_cons_zero] at hr
      generalize f j 0 = z at hr
      cases hr; rfl
    have hcell : ∀ j (hj : j < xs.length), w.cell? ⟨b, off + j, none⟩ = some (.string ⟨xs[j].toArray⟩) := fun j hj => by
      have := hfz _ _ _ (hF j 0 (by omega) (by omega))
      rw [hval j hj] at this
      rw [← this]; simp
    have hpos : 0 < xs.length := by
      rcases Nat.eq_zero_or_pos xs.length with h | h
      · exact absurd (List.length_eq_zero_iff.1 h) h0
      · exact h
    have hbk : b < w.heap.size := by
      have := hcell 0 hpos
      rcases Nat.lt_or_ge b w.heap.size with h' | h'
      · exact h'
      · simp [World.cell?, Array.getElem?_eq_none h'] at this
    have hxs : (xs.map fun x => (⟨x.toArray⟩ : ByteArray)).map (·.data.toList) = xs := by
      rw [List.map_map]
      exact List.map_id' xs
    have := Tryd.strings_Join b off cap (xs.map fun x => (⟨x.toArray⟩ : ByteArray)) ⟨sep.toArray⟩ w (fun j x hj => by
      simp only [List.getElem?_map, Option.map_eq_some_iff] at hj
      obtain ⟨y, hy, rfl⟩ := hj
      obtain ⟨hj', rfl⟩ := List.getElem?_eq_some_iff.1 hy
      exact hcell j hj') hbk (by simp; omega) (by simp; omega) (by rw [hxs]; simpa using hl)
    rw [hxs] at this
    simp only [List.length_map, hxl] at this
    refine this.mono ?_
    rintro e w' ⟨rfl, hB⟩
    exact ⟨_, g, rfl, .d _ _ (.st _), fun _ _ _ h => h, fun _ _ _ h => .inl h, fun b' o v h => by
      have hc := hfz b' o v h
      have hb' : b' < w.heap.size := by
        rcases Nat.lt_or_ge b' w.heap.size with h' | h'
        · exact h'
        · simp [World.cell?, Array.getElem?_eq_none h'] at hc
      rw [← hc]
      simp only [World.cell?, hB.block b' hb'], hB.size, hB.block, hB.os, hB.tape, hB.output⟩
theorem two_st {g : Gh} {vs : Array Value} {s t : List UInt8} (hsz : vs.size = 2) (hav : ∀ (j : Nat) (h : j < [AV.d (.st s), AV.d (.st t)].length), AVR g [AV.d (.st s), AV.d (.st t)][j] (vs.getD j undef)) : vs = #[.string ⟨s.toArray⟩, .string ⟨t.toArray⟩] := by
  have ha := hav 0 (by simp)
  have hb := hav 1 (by simp)
  rw [arr2 hsz]
  simp only [List.getElem_cons_zero, List.getElem_cons_succ] at ha hb
  generalize vs.getD 0 undef = a at ha
  generalize vs.getD 1 undef = b at hb
  cases hb with | d _ _ hb => ?_
  cases hb with | st => ?_
  cases ha with | d _ _ ha => ?_
  cases ha with | st => ?_
  rfl
theorem still_ok {f : Nat} {s t : List UInt8} {k : Int} (hc : ∀ (vs : Array Value) (w : World), (callFunc f vs).run Tryd.prog w = .ok (.enter f vs) w) (h : ∀ w, Calls Tryd.prog f #[.string ⟨s.toArray⟩, .string ⟨t.toArray⟩] w fun e w' => e = .returned (.int .i64 k) ∧ w' = w) : FnC Tryd.prog f [.d (.st s), .d (.st t)] (.d (.it .i64 k)) := by
  refine ⟨rfl, fun g w vs hfz hsz hav => .inl ⟨hc _ _, ?_⟩⟩
  rw [two_st hsz hav]
  refine (h w).mono ?_
  rintro e w' ⟨rfl, rfl⟩
  exact ⟨_, g, rfl, .d _ _ (.it _ _), fun _ _ _ h => h, fun _ _ _ h => .inl h, hfz, Nat.le_refl _, fun _ _ => rfl, rfl, rfl, rfl⟩
theorem index_ok (s : List UInt8) (c : UInt8) : FnC Tryd.prog 60 [.d (.st s), .d (.st [c])] (.d (.it .i64 (Lib.indexByte s c))) := still_ok Tryd.call60 fun w => Tryd.strings_Index_one ⟨s.toArray⟩ c w
theorem count_ok (s : List UInt8) (c : UInt8) : FnC Tryd.prog 59 [.d (.st s), .d (.st [c])] (.d (.it .i64 (Lib.countByte s c))) := still_ok Tryd.call59 fun w => Tryd.strings_Count_one ⟨s.toArray⟩ c w
theorem wordsC_none (c : UInt8) : ∀ (s : List UInt8), Lib.indexByte s c = -1 → wordsC c s = [s]
  | [], _ => rfl
  | b :: t, h => by
    unfold Lib.indexByte at h
    have hge := Lib.indexByte_ge t c
    by_cases hb : b = c
    · obtain rfl := hb; simp at h
    · have hb' : (b == c) = false := beq_eq_false_iff_ne.2 hb
      rw [hb'] at h
      simp only [Bool.false_eq_true, if_false] at h
      have ht : Lib.indexByte t c = -1 := by
        by_cases h1 : Lib.indexByte t c = -1
        · exact h1
        · have : (Lib.indexByte t c == -1) = false := by simpa using h1
          rw [this] at h
          simp only [Bool.false_eq_true, if_false] at h
          omega
      simp only [wordsC, if_neg hb, wordsC_none c t ht]
theorem wordsC_some (c : UInt8) : ∀ (s : List UInt8), 0 ≤ Lib.indexByte s c → Lib.indexByte s c < s.length ∧ wordsC c s = s.take (Lib.indexByte s c).toNat :: wordsC c (s.drop ((Lib.indexByte s c).toNat + 1)) ∧ s.count c = 1 + (s.drop ((Lib.indexByte s c).toNat + 1)).count c
  | [], h => by simp [Lib.indexByte] at h
  | b :: t, h => by
    have hge := Lib.indexByte_ge t c
    by_cases hb : b = c
    · obtain rfl := hb
      have e : Lib.indexByte (b :: t) b = 0 := by simp [Lib.indexByte]
      rw [e]
      refine ⟨by simp, by simp [wordsC], by simp; omega⟩
    · have hb' : (b == c) = false := beq_eq_false_iff_ne.2 hb
      have e : Lib.indexByte (b :: t) c = if Lib.indexByte t c == -1 then -1 else Lib.indexByte t c + 1 := by simp [Lib.indexByte, hb]
      rw [e] at h ⊢
      by_cases h1 : Lib.indexByte t c = -1
      · rw [h1] at h; simp at h
      · have h2 : (Lib.indexByte t c == -1) = false := by simpa using h1
        rw [h2] at h ⊢
        simp only [Bool.false_eq_true, if_false] at h ⊢
        obtain ⟨k1, k2, k3⟩ := wordsC_some c t (by omega)
        have hn : (Lib.indexByte t c + 1).toNat = (Lib.indexByte t c).toNat + 1 := by omega
        rw [hn]
        refine ⟨by simp; omega, ?_, ?_⟩
        · simp only [wordsC, if_neg hb, k2, List.take_succ_cons, List.drop_succ_cons]
        · simp only [List.drop_succ_cons, List.count_cons, hb', Bool.false_eq_true, if_false, Nat.add_zero]
          exact k3
theorem countC_none (c : UInt8) : ∀ (s : List UInt8), Lib.indexByte s c = -1 → s.count c = 0 := by
  intro s
  induction s with
  | nil => intro _; rfl
  | cons b t ih =>
    intro h
    have hge := Lib.indexByte_ge t c
    by_cases hb : b = c
    · obtain rfl := hb; simp [Lib.indexByte] at h
    · have e : Lib.indexByte (b :: t) c = if Lib.indexByte t c == -1 then -1 else Lib.indexByte t c + 1 := by simp [Lib.indexByte, hb]
      rw [e] at h
      by_cases h1 : Lib.indexByte t c = -1
      · have hb' : (b == c) = false := beq_eq_false_iff_ne.2 hb
        simp only [List.count_cons, hb', Bool.false_eq_true, if_false, Nat.add_zero]
        exact ih h1
      · have h2 : (Lib.indexByte t c == -1) = false := by simpa using h1
        rw [h2] at h
        simp only [Bool.false_eq_true, if_false] at h
        omega
theorem wordsC_len (c : UInt8) (s : List UInt8) : (wordsC c s).length = s.count c + 1 := by
  induction s with
  | nil => rfl
  | cons b t ih =>
    by_cases hb : b = c
    · obtain rfl := hb; simp [wordsC, ih]
    · have hb' : (b == c) = false := beq_eq_false_iff_ne.2 hb
      simp only [wordsC, if_neg hb, List.count_cons, hb', Bool.false_eq_true, if_false, Nat.add_zero]
      rw [← ih]
      cases h : wordsC c t with
      | nil => rw [h] at ih; simp at ih
      | cons w r => simp
end Go.Proofs.YtkcpcjhjemedpaaDoor

namespace Go.Proofs.YtkcpcjhjemedpaaDoor
open Go.Sy
set_option maxRecDepth 100000
set_option linter.all false
def stA (b : List UInt8) : AV := .d (.st b)
def gsA (c : UInt8) (n : Nat) : List (List UInt8) × List UInt8 → S | (x, s) => ⟨[(0, .d (.st s)), (1, .d (.st [c])), (2, .d (.it .i64 0)), (3, .d (.it .i64 n)), (9, .ms 1 1 0 (n + 1) (n + 1)), (10, .d (.it .i64 x.length))], [(1, .cells (n + 1) (x.map stA ++ List.replicate (n + 1 - x.length) (stA [])))], 2⟩
theorem zeros_st (n : Nat) : (zeros n [D.st []]).map toA = List.replicate n (stA []) := by
  induction n with
  | zero => rfl
  | succ n ih => simp only [zeros, List.map_append, ih, List.replicate_succ]; rfl
theorem idx_lt (c : UInt8) (r : List UInt8) : Lib.indexByte r c < r.length := by
  by_cases h : 0 ≤ Lib.indexByte r c
  · exact (wordsC_some c r h).1
  · omega
theorem none_of {c : UInt8} {r : List UInt8} (h : r.count c = 0) : Lib.indexByte r c = -1 := by
  by_cases h0 : 0 ≤ Lib.indexByte r c
  · have := (wordsC_some c r h0).2.2
    omega
  · have := Lib.indexByte_ge r c
    omega
theorem take_all {α : Type} {l : List α} {n : Nat} (h : l.length = n) : l.take n = l := by subst h; exact List.take_length
theorem upd_row (x : List AV) (m : Nat) (z v : AV) : (x ++ List.replicate m z).take x.length ++ [v] ++ (x ++ List.replicate m z).drop (x.length + 1) = x ++ v :: List.replicate (m - 1) z := by
  rw [List.take_left, List.drop_append, List.drop_eq_nil_of_le (by omega), List.nil_append, List.append_assoc]
  congr 1
  simp [show x.length + 1 - x.length = 1 by omega]
theorem flat_st (x : List (List UInt8)) : ((x.map stL).flatten).map AV.d = x.map stA := by
  induction x with
  | nil => rfl
  | cons a t ih => simp only [List.map_cons, List.flatten_cons, List.map_append, ih]; rfl
theorem all_stA (l : List (List UInt8)) (m : Nat) : (l.map stA).all (AV.lt1 m) = true := by
  rw [List.all_eq_true]
  intro x hx
  obtain ⟨b, _, rfl⟩ := List.mem_map.1 hx
  rfl
theorem fin_of (x : List (List UInt8)) (r : List UInt8) (n : Nat) (hl : x.length = n) : (List.drop 0 ((x.map stA ++ List.replicate (n + 1 - x.length) (stA [])).take x.length ++ [AV.d (.st r)] ++ (x.map stA ++ List.replicate (n + 1 - x.length) (stA [])).drop (x.length + 1))).take (((x.length : Int) + 1).toNat * 1) = List.map AV.d (List.map stL (x ++ [r])).flatten := by
  have := upd_row (x.map stA) (n + 1 - x.length) (stA []) (.d (.st r))
  rw [List.length_map] at this
  rw [List.drop_zero, this, flat_st, show n + 1 - x.length - 1 = 0 by omega]
  rw [List.take_of_length_le (by rw [List.length_append, List.length_map]; simp), List.map_append]; rfl
theorem genSplit_ok (c : UInt8) (s : List UInt8) (hs : s.length ≤ 1000000) : FnC Tryd.prog 45 [.d (.st s), .d (.st [c]), .d (.it .i64 0), .d (.it .i64 (-1))] (.d (.fs 1 ((wordsC c s).map stL))) := by
  refine FnC.intro ti_ok Tryd.func45 rfl Tryd.ntmps45 Tryd.call45 rfl (Nat.le_of_ble_eq_true rfl) rfl ?_
  have hcnt : s.count c ≤ s.length := List.count_le_length
  have hc0 : Lib.countByte s c = s.count c := rfl
  (repeat' ((conv => whnf); first | with_reducible refine Spl.tt ?_ | with_reducible refine Spl.ff ?_ | refine CallE.con ⟨_, count_ok s c, ?_⟩ | with_reducible refine LetI.eq ((s.count c + 1 : Nat) : Int) (by split <;> omega) ?_ | with_reducible refine LetN.eq (s.count c + 1) (by omega) ?_ | with_reducible refine draw_auto ti_ok mixed (by decide +kernel) ?_ | with_reducible refine LetI.i64 (by first | omega | (with_unfolding_all exact Nat.le_of_ble_eq_true rfl) | (simp only [List.length_append, List.length_cons, List.length_nil, List.length_map, chunk_length]; omega)) ?_ | with_reducible refine LetI.u64 (by omega) ?_ | with_reducible refine LetI.u8 (by omega) ?_ | with_reducible refine LetI.i64q (by omega) ?_ | with_reducible refine LetI.u64q (by omega) ?_ | with_reducible refine LetI.rem (by omega) ?_ | with_reducible refine LetN.mk ?_ | with_reducible refine at_hm (by assumption) ?_ | with_reducible refine at_hb (by assumption) ?_ | with_reducible refine at_lit (by simp only [List.length_map, List.length_cons, List.length_nil]; omega) (by with_unfolding_all exact rfl) ?_ | with_reducible refine at_natm8 (by omega) (fun x hx hu => ?_) | with_reducible refine at_nat8 (by omega) (fun x hx hu => ?_) | with_reducible refine at_bi8 (by omega) (fun x hx hu => ?_) | with_reducible refine at_natm (by omega) (fun x hx => ?_) | with_reducible refine at_intm (by omega) (fun x hx => ?_) | with_reducible refine at_nat (by omega) (fun x hx => ?_) | with_reducible refine at_bi (by omega) (fun x hx => ?_) | with_reducible refine And.intro (by first | omega | (dsimp only; omega) | (with_unfolding_all exact Nat.le_of_ble_eq_true rfl) | (simp only [List.length_append, List.length_cons, List.length_nil, List.length_map, chunk_length]; omega)) ?_ | with_reducible refine cond_tt (by first | exact rfl | exact (ble_tt (by first | omega | (dsimp only; omega))) | exact (blt_tt (by first | omega | (dsimp only; omega))) | exact band_tt rfl rfl | exact band_tt rfl (ble_tt (by first | omega | (dsimp only; omega))) | exact band_tt rfl (blt_tt (by first | omega | (dsimp only; omega))) | exact band_tt (ble_tt (by first | omega | (dsimp only; omega))) rfl | exact band_tt (ble_tt (by first | omega | (dsimp only; omega))) (ble_tt (by first | omega | (dsimp only; omega))) | exact band_tt (ble_tt (by first | omega | (dsimp only; omega))) (blt_tt (by first | omega | (dsimp only; omega))) | exact band_tt (blt_tt (by first | omega | (dsimp only; omega))) rfl | exact band_tt (blt_tt (by first | omega | (dsimp only; omega))) (ble_tt (by first | omega | (dsimp only; omega))) | exact band_tt (blt_tt (by first | omega | (dsimp only; omega))) (blt_tt (by first | omega | (dsimp only; omega)))) ?_ | with_reducible refine Both.mk ?_ ?_ | with_reducible refine NilS.ts ?_ | with_reducible refine LetE.now ?_ | with_reducible refine at_some (by with_unfolding_all exact rfl) ?_ | with_reducible refine Spl.yes (by decide +kernel) ?_ | with_reducible refine Spl.no (by decide +kernel) ?_ | with_reducible refine Spl.yes (by (first | with_reducible assumption | with_unfolding_all exact rfl | exact dtt (by omega) | exact ett (by omega) | exact ntt (by omega) | exact seq_tt (by with_unfolding_all assumption) | exact sne_tt (by with_unfolding_all assumption))) ?_ | with_reducible refine Spl.no (by (first | with_reducible assumption | with_unfolding_all exact rfl | exact dff (by omega) | exact eff (by omega) | exact nff (by omega) | exact seq_ff (by with_unfolding_all assumption) | exact sne_ff (by with_unfolding_all assumption))) ?_ | with_reducible refine Spl.pd (fun h => ?_) (fun h => ?_) | with_reducible refine Spl.peq (fun h => ?_) (fun h => ?_) | with_reducible refine Spl.pne (fun h => ?_) (fun h => ?_) | with_reducible refine Spl.seq (fun h => ?_) (fun h => ?_) | with_reducible refine Spl.sne (fun h => ?_) (fun h => ?_) | with_reducible refine Spl.nt ?_ | with_reducible refine Spl.mk (fun h => ?_) (fun h => ?_)))
  have hz := zeros_st (s.count c + 1)
  refine loop_rule ti_ok (fun x : List (List UInt8) × List UInt8 => wordsC c s = x.1 ++ wordsC c x.2 ∧ x.1.length + x.2.count c = s.count c ∧ x.2.length ≤ s.length) (gsA c (s.count c)) (fun x => s.count c - x.1.length) ([], s) ⟨rfl, by simp, Nat.le_refl _⟩ ⟨⟨rfl, rfl, rfl, it_eq ?_, rfl, rfl, trivial⟩, ⟨cells_eq (Nat.mul_one _) hz, trivial⟩, ?_⟩ ?_
  · omega
  · simp only [S.ok, gsA, List.all_cons, List.all_nil, List.map_nil, List.nil_append, Ob.lt]
    rw [List.all_eq_true.2 (fun x hx => by rw [List.eq_of_mem_replicate hx]; rfl)]
    rfl
  intro ⟨x, r⟩ ⟨i1, i2, i3⟩
  simp only at i1 i2 i3
  have hlt := idx_lt c r
  (repeat' ((conv => whnf); first | with_reducible refine Spl.tt ?_ | with_reducible refine Spl.ff ?_ | refine CallE.con ⟨_, index_ok r c, ?_⟩ | with_reducible refine LetN.eq x.length (by dsimp only; omega) ?_ | with_reducible refine draw_auto ti_ok mixed (by decide +kernel) ?_ | with_reducible refine LetI.i64 (by first | omega | (with_unfolding_all exact Nat.le_of_ble_eq_true rfl) | (simp only [List.length_append, List.length_cons, List.length_nil, List.length_map, chunk_length]; omega)) ?_ | with_reducible refine LetI.u64 (by omega) ?_ | with_reducible refine LetI.u8 (by omega) ?_ | with_reducible refine LetI.i64q (by omega) ?_ | with_reducible refine LetI.u64q (by omega) ?_ | with_reducible refine LetI.rem (by omega) ?_ | with_reducible refine LetN.mk ?_ | with_reducible refine at_hm (by assumption) ?_ | with_reducible refine at_hb (by assumption) ?_ | with_reducible refine at_lit (by simp only [List.length_map, List.length_cons, List.length_nil]; omega) (by with_unfolding_all exact rfl) ?_ | with_reducible refine at_natm8 (by omega) (fun x hx hu => ?_) | with_reducible refine at_nat8 (by omega) (fun x hx hu => ?_) | with_reducible refine at_bi8 (by omega) (fun x hx hu => ?_) | with_reducible refine at_natm (by omega) (fun x hx => ?_) | with_reducible refine at_intm (by omega) (fun x hx => ?_) | with_reducible refine at_nat (by omega) (fun x hx => ?_) | with_reducible refine at_bi (by omega) (fun x hx => ?_) | with_reducible refine And.intro (by first | omega | (dsimp only; omega) | (with_unfolding_all exact Nat.le_of_ble_eq_true rfl) | (simp only [List.length_append, List.length_cons, List.length_nil, List.length_map, chunk_length]; omega)) ?_ | with_reducible refine cond_tt (by first | exact rfl | exact (ble_tt (by first | omega | (dsimp only; omega))) | exact (blt_tt (by first | omega | (dsimp only; omega))) | exact band_tt rfl rfl | exact band_tt rfl (ble_tt (by first | omega | (dsimp only; omega))) | exact band_tt rfl (blt_tt (by first | omega | (dsimp only; omega))) | exact band_tt (ble_tt (by first | omega | (dsimp only; omega))) rfl | exact band_tt (ble_tt (by first | omega | (dsimp only; omega))) (ble_tt (by first | omega | (dsimp only; omega))) | exact band_tt (ble_tt (by first | omega | (dsimp only; omega))) (blt_tt (by first | omega | (dsimp only; omega))) | exact band_tt (blt_tt (by first | omega | (dsimp only; omega))) rfl | exact band_tt (blt_tt (by first | omega | (dsimp only; omega))) (ble_tt (by first | omega | (dsimp only; omega))) | exact band_tt (blt_tt (by first | omega | (dsimp only; omega))) (blt_tt (by first | omega | (dsimp only; omega)))) ?_ | with_reducible refine Both.mk ?_ ?_ | with_reducible refine NilS.ts ?_ | with_reducible refine LetE.now ?_ | with_reducible refine at_some (by with_unfolding_all exact rfl) ?_ | with_reducible refine Spl.yes (by decide +kernel) ?_ | with_reducible refine Spl.no (by decide +kernel) ?_ | with_reducible refine Spl.yes (by (first | with_reducible assumption | with_unfolding_all exact rfl | exact dtt (by omega) | exact ett (by omega) | exact ntt (by omega) | exact seq_tt (by with_unfolding_all assumption) | exact sne_tt (by with_unfolding_all assumption))) ?_ | with_reducible refine Spl.no (by (first | with_reducible assumption | with_unfolding_all exact rfl | exact dff (by omega) | exact eff (by omega) | exact nff (by omega) | exact seq_ff (by with_unfolding_all assumption) | exact sne_ff (by with_unfolding_all assumption))) ?_ | with_reducible refine Spl.pd (fun h => ?_) (fun h => ?_) | with_reducible refine Spl.peq (fun h => ?_) (fun h => ?_) | with_reducible refine Spl.pne (fun h => ?_) (fun h => ?_) | with_reducible refine Spl.seq (fun h => ?_) (fun h => ?_) | with_reducible refine Spl.sne (fun h => ?_) (fun h => ?_) | with_reducible refine Spl.nt ?_ | with_reducible refine Spl.mk (fun h => ?_) (fun h => ?_)))
  · have hn : Lib.indexByte r c = -1 := by have := Lib.indexByte_ge r c; omega
    have h0 := countC_none c r hn
    have hl : x.length = s.count c := by omega
    refine ⟨(wordsC c s).map stL, ⟨?_, ?_, ?_, ?_⟩, rfl⟩
    · dsimp only; omega
    · simp only [List.length_map, wordsC_len c]; omega
    · intro y hy
      obtain ⟨z, _, rfl⟩ := List.mem_map.1 hy
      rfl
    · rw [i1, wordsC_none c r hn]
      exact fin_of x r _ hl
  · have h0 : 0 ≤ Lib.indexByte r c := by omega
    obtain ⟨k1, k2, k3⟩ := wordsC_some c r h0
    have e1 : (Lib.indexByte r c + ([c] : List UInt8).length).toNat = (Lib.indexByte r c).toNat + 1 := by simp only [List.length_cons, List.length_nil]; omega
    refine again ((x ++ [r.take (Lib.indexByte r c).toNat], r.drop ((Lib.indexByte r c).toNat + 1)) : List (List UInt8) × List UInt8) ⟨?_, ?_, ?_⟩ (by show _ - (x ++ _).length < _ - x.length; rw [List.length_append, List.length_singleton]; omega) (And.intro (st_eq ?_) (And.intro rfl (And.intro rfl (And.intro rfl (And.intro rfl (And.intro (it_eq ?_) trivial)))))) (And.intro (cells_eq rfl ?_) trivial) ?_
    · rw [i1, k2, List.append_assoc]; rfl
    · show (x ++ _).length + (List.drop _ r).count c = _
      rw [List.length_append, List.length_singleton]; omega
    · show (List.drop _ r).length ≤ _
      rw [List.length_drop]; omega
    · rw [e1]
    · rw [List.length_append, List.length_singleton]; rfl
    · have := upd_row (x.map stA) (s.count c + 1 - x.length) (stA []) (stA (r.take (Lib.indexByte r c).toNat))
      rw [List.length_map] at this
      rw [List.map_append, List.length_append, List.length_singleton]
      refine Eq.trans ?_ (this.trans ?_)
      · simp only [Int.add_zero]; rfl
      · rw [show s.count c + 1 - x.length - 1 = s.count c + 1 - (x.length + 1) by omega, List.append_assoc]; rfl
    · simp only [S.ok, gsA, List.all_cons, List.all_nil, Ob.lt, List.all_append, all_stA]
      rw [List.all_eq_true.2 (fun x hx => by rw [List.eq_of_mem_replicate hx]; rfl)]
      rfl
  · have hn : Lib.indexByte r c = -1 := none_of (by omega)
    have h0 := countC_none c r hn
    have hl : x.length = s.count c := by omega
    refine ⟨(wordsC c s).map stL, ⟨?_, ?_, ?_, ?_⟩, rfl⟩
    · dsimp only; omega
    · simp only [List.length_map, wordsC_len c]; omega
    · intro y hy
      obtain ⟨z, _, rfl⟩ := List.mem_map.1 hy
      rfl
    · rw [i1, wordsC_none c r hn]
      exact fin_of x r _ hl
theorem split_ok (c : UInt8) (s : List UInt8) (hs : s.length ≤ 1000000) : FnC Tryd.prog 31 [.d (.st s), .d (.st [c])] (.d (.fs 1 ((wordsC c s).map stL))) := by
  refine FnC.intro ti_ok Tryd.func31 rfl Tryd.ntmps31 Tryd.call31 rfl (Nat.le_of_ble_eq_true rfl) rfl ?_
  (repeat' ((conv => whnf); first | with_reducible refine Spl.tt ?_ | with_reducible refine Spl.ff ?_ | refine CallE.con ⟨_, genSplit_ok c s hs, ?_⟩ | with_reducible refine draw_auto ti_ok mixed (by decide +kernel) ?_ | with_reducible refine LetI.i64 (by first | omega | (with_unfolding_all exact Nat.le_of_ble_eq_true rfl) | (simp only [List.length_append, List.length_cons, List.length_nil, List.length_map, chunk_length]; omega)) ?_ | with_reducible refine LetI.u64 (by omega) ?_ | with_reducible refine LetI.u8 (by omega) ?_ | with_reducible refine LetI.i64q (by omega) ?_ | with_reducible refine LetI.u64q (by omega) ?_ | with_reducible refine LetI.rem (by omega) ?_ | with_reducible refine LetN.mk ?_ | with_reducible refine at_hm (by assumption) ?_ | with_reducible refine at_hb (by assumption) ?_ | with_reducible refine at_lit (by simp only [List.length_map, List.length_cons, List.length_nil]; omega) (by with_unfolding_all exact rfl) ?_ | with_reducible refine at_natm8 (by omega) (fun x hx hu => ?_) | with_reducible refine at_nat8 (by omega) (fun x hx hu => ?_) | with_reducible refine at_bi8 (by omega) (fun x hx hu => ?_) | with_reducible refine at_natm (by omega) (fun x hx => ?_) | with_reducible refine at_intm (by omega) (fun x hx => ?_) | with_reducible refine at_nat (by omega) (fun x hx => ?_) | with_reducible refine at_bi (by omega) (fun x hx => ?_) | with_reducible refine And.intro (by first | omega | (dsimp only; omega) | (with_unfolding_all exact Nat.le_of_ble_eq_true rfl) | (simp only [List.length_append, List.length_cons, List.length_nil, List.length_map, chunk_length]; omega)) ?_ | with_reducible refine cond_tt (by first | exact rfl | exact (ble_tt (by first | omega | (dsimp only; omega))) | exact (blt_tt (by first | omega | (dsimp only; omega))) | exact band_tt rfl rfl | exact band_tt rfl (ble_tt (by first | omega | (dsimp only; omega))) | exact band_tt rfl (blt_tt (by first | omega | (dsimp only; omega))) | exact band_tt (ble_tt (by first | omega | (dsimp only; omega))) rfl | exact band_tt (ble_tt (by first | omega | (dsimp only; omega))) (ble_tt (by first | omega | (dsimp only; omega))) | exact band_tt (ble_tt (by first | omega | (dsimp only; omega))) (blt_tt (by first | omega | (dsimp only; omega))) | exact band_tt (blt_tt (by first | omega | (dsimp only; omega))) rfl | exact band_tt (blt_tt (by first | omega | (dsimp only; omega))) (ble_tt (by first | omega | (dsimp only; omega))) | exact band_tt (blt_tt (by first | omega | (dsimp only; omega))) (blt_tt (by first | omega | (dsimp only; omega)))) ?_ | with_reducible refine Both.mk ?_ ?_ | with_reducible refine NilS.ts ?_ | with_reducible refine LetE.now ?_ | with_reducible refine at_some (by with_unfolding_all exact rfl) ?_ | with_reducible refine Spl.yes (by decide +kernel) ?_ | with_reducible refine Spl.no (by decide +kernel) ?_ | with_reducible refine Spl.yes (by (first | with_reducible assumption | with_unfolding_all exact rfl | exact dtt (by omega) | exact ett (by omega) | exact ntt (by omega) | exact seq_tt (by with_unfolding_all assumption) | exact sne_tt (by with_unfolding_all assumption))) ?_ | with_reducible refine Spl.no (by (first | with_reducible assumption | with_unfolding_all exact rfl | exact dff (by omega) | exact eff (by omega) | exact nff (by omega) | exact seq_ff (by with_unfolding_all assumption) | exact sne_ff (by with_unfolding_all assumption))) ?_ | with_reducible refine Spl.pd (fun h => ?_) (fun h => ?_) | with_reducible refine Spl.peq (fun h => ?_) (fun h => ?_) | with_reducible refine Spl.pne (fun h => ?_) (fun h => ?_) | with_reducible refine Spl.seq (fun h => ?_) (fun h => ?_) | with_reducible refine Spl.sne (fun h => ?_) (fun h => ?_) | with_reducible refine Spl.nt ?_ | with_reducible refine Spl.mk (fun h => ?_) (fun h => ?_)))
  rfl
end Go.Proofs.YtkcpcjhjemedpaaDoor
