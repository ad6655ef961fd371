/- Contracts of the functions that the law reaches, and the law. Conditions: none. -/
import Derived.Test.YtfpcclakpklghaaGreatDoorProg
import Derived.Test.YtfpcclakpklghaaGreatDoorSD
import Derived.KernelRfl
import Derived.Shelf.Strings.Trim
import Derived.Shelf.Small.Utf8
import Derived.Shelf.Small.Strs
import Derived.Shelf.Small.Wraps
import Derived.Shelf.Utf8.RuneCount
import Derived.Shelf.Strings.Search1
import Derived.Shelf.Strings.Search2
import Derived.Shelf.Strings.Search3
import Derived.Shelf.Strings.Count
import Derived.Shelf.LaysM
import Derived.Shelf.Strings.Shaped
import Derived.Shelf.Sort.Plain
import Derived.Shelf.Strings.Prefix
import Derived.Shelf.Strings.Split
import Derived.Shelf.Strings.SplitShaped
import Derived.Shelf.Unicode.Decode
import Derived.Shelf.Strings.Runes
import Derived.Shelf.Strings.RuneCount
import Derived.Shelf.Strings.AsciiSet
import Derived.Shelf.Strings.Explode
import Derived.Shelf.Unicode.DecodeSlow
import Derived.Shelf.Unicode.DecodeAny
import Derived.Shelf.Unicode.DecodeLast
import Derived.Ground.Names2Prog
import Derived.Shelf.Slices.Clone
import Derived.Shelf.Slices.CompactI
import Derived.Shelf.Slices.CompactS
import Derived.Shelf.Slices.In.SortNone
import Derived.Ground.SlbCloneProg
import Derived.Shelf.Bytes.SlClone
import Derived.Laws.Externs
import Derived.Test.YtfpcclakpklghaaGreatDoorSC
import Derived.Lib.RowBridge
set_option linter.all false
/- The types of the seat, as the Sym layer reads them. Conditions: none. -/
namespace Go.Proofs.YtfpcclakpklghaaGreatDoor
open Go.Sy
set_option maxRecDepth 100000
def tyL : List (Nat × Ty) := [
  (0, { kd := .other, size := 1, bytes := 0, zero := [], cmp := .none, pl := [] }),
  (1, { kd := .func, size := 1, bytes := 8, zero := [.ot .nilFunc], cmp := .none, pl := [] }),
  (2, { kd := .int .i64, size := 1, bytes := 8, zero := [.it .i64 0], cmp := .some [.it .i64 0], pl := [] }),
  (3, { kd := .int .i64, size := 1, bytes := 8, zero := [.it .i64 0], cmp := .some [.it .i64 0], pl := [] }),
  (4, { kd := .bool, size := 1, bytes := 1, zero := [.bl Bool.false], cmp := .some [.bl Bool.false], pl := [] }),
  (5, { kd := .int .u8, size := 1, bytes := 1, zero := [.it .u8 0], cmp := .some [.it .u8 0], pl := [] }),
  (6, { kd := .int .u8, size := 1, bytes := 1, zero := [.it .u8 0], cmp := .some [.it .u8 0], pl := [] }),
  (7, { kd := .struct [(0, 2), (1, 3), (2, 4), (3, 6)], size := 4, bytes := 24, zero := [.it .i64 0, .it .i64 0, .bl Bool.false, .it .u8 0], cmp := .some [.it .i64 0, .it .i64 0, .bl Bool.false, .it .u8 0], pl := [(0, 1), (1, 1), (2, 1), (3, 1)] }),
  (8, { kd := .struct [(0, 2), (1, 3), (2, 4), (3, 6)], size := 4, bytes := 24, zero := [.it .i64 0, .it .i64 0, .bl Bool.false, .it .u8 0], cmp := .some [.it .i64 0, .it .i64 0, .bl Bool.false, .it .u8 0], pl := [(0, 1), (1, 1), (2, 1), (3, 1)] }),
  (9, { kd := .string, size := 1, bytes := 16, zero := [.st []], cmp := .some [.st []], pl := [] }),
  (10, { kd := .string, size := 1, bytes := 16, zero := [.st []], cmp := .some [.st []], pl := [] }),
  (11, { kd := .string, size := 1, bytes := 16, zero := [.st []], cmp := .some [.st []], pl := [] }),
  (12, { kd := .int .u64, size := 1, bytes := 8, zero := [.it .u64 0], cmp := .some [.it .u64 0], pl := [] }),
  (13, { kd := .struct [(0, 9), (1, 12)], size := 2, bytes := 24, zero := [.st [], .it .u64 0], cmp := .none, pl := [(0, 1), (1, 1)] }),
  (14, { kd := .struct [(0, 9), (1, 12)], size := 2, bytes := 24, zero := [.st [], .it .u64 0], cmp := .none, pl := [(0, 1), (1, 1)] }),
  (15, { kd := .ptr 181, size := 1, bytes := 8, zero := [.ot (.pointer .none)], cmp := .none, pl := [] }),
  (16, { kd := .ptr 184, size := 1, bytes := 8, zero := [.ot (.pointer .none)], cmp := .none, pl := [] }),
  (17, { kd := .ptr 193, size := 1, bytes := 8, zero := [.ot (.pointer .none)], cmp := .none, pl := [] }),
  (18, { kd := .struct [(0, 17)], size := 1, bytes := 8, zero := [.ot (.pointer .none)], cmp := .none, pl := [(0, 1)] }),
  (19, { kd := .struct [(0, 17)], size := 1, bytes := 8, zero := [.ot (.pointer .none)], cmp := .none, pl := [(0, 1)] }),
  (20, { kd := .other, size := 1, bytes := 16, zero := [.ot .nilIface], cmp := .none, pl := [] }),
  (21, { kd := .int .i32, size := 1, bytes := 4, zero := [.it .i32 0], cmp := .some [.it .i32 0], pl := [] }),
  (22, { kd := .slice 44, size := 1, bytes := 24, zero := [.fs 32 []], cmp := .none, pl := [] }),
  (23, { kd := .slice 48, size := 1, bytes := 24, zero := [.fs 36 []], cmp := .none, pl := [] }),
  (24, { kd := .func, size := 1, bytes := 8, zero := [.ot .nilFunc], cmp := .none, pl := [] }),
  (25, { kd := .ptr 85, size := 1, bytes := 8, zero := [.ot (.pointer .none)], cmp := .none, pl := [] }),
  (26, { kd := .func, size := 1, bytes := 8, zero := [.ot .nilFunc], cmp := .none, pl := [] }),
  (27, { kd := .func, size := 1, bytes := 8, zero := [.ot .nilFunc], cmp := .none, pl := [] }),
  (28, { kd := .arr 4 3, size := 4, bytes := 32, zero := [.it .i64 0, .it .i64 0, .it .i64 0, .it .i64 0], cmp := .some [.it .i64 0, .it .i64 0, .it .i64 0, .it .i64 0], pl := [] }),
  (29, { kd := .struct [(0, 3), (1, 3), (2, 28)], size := 6, bytes := 48, zero := [.it .i64 0, .it .i64 0, .it .i64 0, .it .i64 0, .it .i64 0, .it .i64 0], cmp := .some [.it .i64 0, .it .i64 0, .it .i64 0, .it .i64 0, .it .i64 0, .it .i64 0], pl := [(0, 1), (1, 1), (2, 4)] }),
  (30, { kd := .struct [(0, 3), (1, 3), (2, 28)], size := 6, bytes := 48, zero := [.it .i64 0, .it .i64 0, .it .i64 0, .it .i64 0, .it .i64 0, .it .i64 0], cmp := .some [.it .i64 0, .it .i64 0, .it .i64 0, .it .i64 0, .it .i64 0, .it .i64 0], pl := [(0, 1), (1, 1), (2, 4)] }),
  (31, { kd := .func, size := 1, bytes := 8, zero := [.ot .nilFunc], cmp := .none, pl := [] }),
  (32, { kd := .func, size := 1, bytes := 8, zero := [.ot .nilFunc], cmp := .none, pl := [] }),
  (33, { kd := .struct [(0, 4), (1, 3), (2, 9), (3, 3)], size := 4, bytes := 40, zero := [.bl Bool.false, .it .i64 0, .st [], .it .i64 0], cmp := .some [.bl Bool.false, .it .i64 0, .st [], .it .i64 0], pl := [(0, 1), (1, 1), (2, 1), (3, 1)] }),
  (34, { kd := .struct [(0, 4), (1, 3), (2, 9), (3, 3)], size := 4, bytes := 40, zero := [.bl Bool.false, .it .i64 0, .st [], .it .i64 0], cmp := .some [.bl Bool.false, .it .i64 0, .st [], .it .i64 0], pl := [(0, 1), (1, 1), (2, 1), (3, 1)] }),
  (35, { kd := .func, size := 1, bytes := 8, zero := [.ot .nilFunc], cmp := .none, pl := [] }),
  (36, { kd := .func, size := 1, bytes := 8, zero := [.ot .nilFunc], cmp := .none, pl := [] }),
  (37, { kd := .func, size := 1, bytes := 8, zero := [.ot .nilFunc], cmp := .none, pl := [] }),
  (38, { kd := .func, size := 1, bytes := 8, zero := [.ot .nilFunc], cmp := .none, pl := [] }),
  (39, { kd := .func, size := 1, bytes := 8, zero := [.ot .nilFunc], cmp := .none, pl := [] }),
  (40, { kd := .func, size := 1, bytes := 8, zero := [.ot .nilFunc], cmp := .none, pl := [] }),
  (41, { kd := .func, size := 1, bytes := 8, zero := [.ot .nilFunc], cmp := .none, pl := [] }),
  (42, { kd := .func, size := 1, bytes := 8, zero := [.ot .nilFunc], cmp := .none, pl := [] }),
  (43, { kd := .arr 32 5, size := 32, bytes := 32, zero := [.it .u8 0, .it .u8 0, .it .u8 0, .it .u8 0, .it .u8 0, .it .u8 0, .it .u8 0, .it .u8 0, .it .u8 0, .it .u8 0, .it .u8 0, .it .u8 0, .it .u8 0, .it .u8 0, .it .u8 0, .it .u8 0, .it .u8 0, .it .u8 0, .it .u8 0, .it .u8 0, .it .u8 0, .it .u8 0, .it .u8 0, .it .u8 0, .it .u8 0, .it .u8 0, .it .u8 0, .it .u8 0, .it .u8 0, .it .u8 0, .it .u8 0, .it .u8 0], cmp := .some [.it .u8 0, .it .u8 0, .it .u8 0, .it .u8 0, .it .u8 0, .it .u8 0, .it .u8 0, .it .u8 0, .it .u8 0, .it .u8 0, .it .u8 0, .it .u8 0, .it .u8 0, .it .u8 0, .it .u8 0, .it .u8 0, .it .u8 0, .it .u8 0, .it .u8 0, .it .u8 0, .it .u8 0, .it .u8 0, .it .u8 0, .it .u8 0, .it .u8 0, .it .u8 0, .it .u8 0, .it .u8 0, .it .u8 0, .it .u8 0, .it .u8 0, .it .u8 0], pl := [] }),
  (44, { kd := .arr 32 5, size := 32, bytes := 32, zero := [.it .u8 0, .it .u8 0, .it .u8 0, .it .u8 0, .it .u8 0, .it .u8 0, .it .u8 0, .it .u8 0, .it .u8 0, .it .u8 0, .it .u8 0, .it .u8 0, .it .u8 0, .it .u8 0, .it .u8 0, .it .u8 0, .it .u8 0, .it .u8 0, .it .u8 0, .it .u8 0, .it .u8 0, .it .u8 0, .it .u8 0, .it .u8 0, .it .u8 0, .it .u8 0, .it .u8 0, .it .u8 0, .it .u8 0, .it .u8 0, .it .u8 0, .it .u8 0], cmp := .some [.it .u8 0, .it .u8 0, .it .u8 0, .it .u8 0, .it .u8 0, .it .u8 0, .it .u8 0, .it .u8 0, .it .u8 0, .it .u8 0, .it .u8 0, .it .u8 0, .it .u8 0, .it .u8 0, .it .u8 0, .it .u8 0, .it .u8 0, .it .u8 0, .it .u8 0, .it .u8 0, .it .u8 0, .it .u8 0, .it .u8 0, .it .u8 0, .it .u8 0, .it .u8 0, .it .u8 0, .it .u8 0, .it .u8 0, .it .u8 0, .it .u8 0, .it .u8 0], pl := [] }),
  (45, { kd := .struct [(0, 3), (1, 3)], size := 2, bytes := 16, zero := [.it .i64 0, .it .i64 0], cmp := .some [.it .i64 0, .it .i64 0], pl := [(0, 1), (1, 1)] }),
  (46, { kd := .struct [(0, 3), (1, 3)], size := 2, bytes := 16, zero := [.it .i64 0, .it .i64 0], cmp := .some [.it .i64 0, .it .i64 0], pl := [(0, 1), (1, 1)] }),
  (47, { kd := .struct [(0, 3), (1, 44), (33, 46), (35, 3)], size := 36, bytes := 64, zero := [.it .i64 0, .it .u8 0, .it .u8 0, .it .u8 0, .it .u8 0, .it .u8 0, .it .u8 0, .it .u8 0, .it .u8 0, .it .u8 0, .it .u8 0, .it .u8 0, .it .u8 0, .it .u8 0, .it .u8 0, .it .u8 0, .it .u8 0, .it .u8 0, .it .u8 0, .it .u8 0, .it .u8 0, .it .u8 0, .it .u8 0, .it .u8 0, .it .u8 0, .it .u8 0, .it .u8 0, .it .u8 0, .it .u8 0, .it .u8 0, .it .u8 0, .it .u8 0, .it .u8 0, .it .i64 0, .it .i64 0, .it .i64 0], cmp := .some [.it .i64 0, .it .u8 0, .it .u8 0, .it .u8 0, .it .u8 0, .it .u8 0, .it .u8 0, .it .u8 0, .it .u8 0, .it .u8 0, .it .u8 0, .it .u8 0, .it .u8 0, .it .u8 0, .it .u8 0, .it .u8 0, .it .u8 0, .it .u8 0, .it .u8 0, .it .u8 0, .it .u8 0, .it .u8 0, .it .u8 0, .it .u8 0, .it .u8 0, .it .u8 0, .it .u8 0, .it .u8 0, .it .u8 0, .it .u8 0, .it .u8 0, .it .u8 0, .it .u8 0, .it .i64 0, .it .i64 0, .it .i64 0], pl := [(0, 1), (1, 32), (33, 2), (35, 1)] }),
  (48, { kd := .struct [(0, 3), (1, 44), (33, 46), (35, 3)], size := 36, bytes := 64, zero := [.it .i64 0, .it .u8 0, .it .u8 0, .it .u8 0, .it .u8 0, .it .u8 0, .it .u8 0, .it .u8 0, .it .u8 0, .it .u8 0, .it .u8 0, .it .u8 0, .it .u8 0, .it .u8 0, .it .u8 0, .it .u8 0, .it .u8 0, .it .u8 0, .it .u8 0, .it .u8 0, .it .u8 0, .it .u8 0, .it .u8 0, .it .u8 0, .it .u8 0, .it .u8 0, .it .u8 0, .it .u8 0, .it .u8 0, .it .u8 0, .it .u8 0, .it .u8 0, .it .u8 0, .it .i64 0, .it .i64 0, .it .i64 0], cmp := .some [.it .i64 0, .it .u8 0, .it .u8 0, .it .u8 0, .it .u8 0, .it .u8 0, .it .u8 0, .it .u8 0, .it .u8 0, .it .u8 0, .it .u8 0, .it .u8 0, .it .u8 0, .it .u8 0, .it .u8 0, .it .u8 0, .it .u8 0, .it .u8 0, .it .u8 0, .it .u8 0, .it .u8 0, .it .u8 0, .it .u8 0, .it .u8 0, .it .u8 0, .it .u8 0, .it .u8 0, .it .u8 0, .it .u8 0, .it .u8 0, .it .u8 0, .it .u8 0, .it .u8 0, .it .i64 0, .it .i64 0, .it .i64 0], pl := [(0, 1), (1, 32), (33, 2), (35, 1)] }),
  (49, { kd := .int .i64, size := 1, bytes := 8, zero := [.it .i64 0], cmp := .some [.it .i64 0], pl := [] }),
  (50, { kd := .other, size := 1, bytes := 0, zero := [], cmp := .none, pl := [] }),
  (51, { kd := .func, size := 1, bytes := 8, zero := [.ot .nilFunc], cmp := .none, pl := [] }),
  (52, { kd := .other, size := 1, bytes := 0, zero := [], cmp := .none, pl := [] }),
  (53, { kd := .func, size := 1, bytes := 8, zero := [.ot .nilFunc], cmp := .none, pl := [] }),
  (54, { kd := .func, size := 1, bytes := 8, zero := [.ot .nilFunc], cmp := .none, pl := [] }),
  (55, { kd := .slice 9, size := 1, bytes := 24, zero := [.fs 1 []], cmp := .none, pl := [] }),
  (56, { kd := .func, size := 1, bytes := 8, zero := [.ot .nilFunc], cmp := .none, pl := [] }),
  (57, { kd := .other, size := 1, bytes := 0, zero := [], cmp := .none, pl := [] }),
  (58, { kd := .func, size := 1, bytes := 8, zero := [.ot .nilFunc], cmp := .none, pl := [] }),
  (59, { kd := .func, size := 1, bytes := 8, zero := [.ot .nilFunc], cmp := .none, pl := [] }),
  (60, { kd := .other, size := 1, bytes := 0, zero := [], cmp := .none, pl := [] }),
  (61, { kd := .func, size := 1, bytes := 8, zero := [.ot .nilFunc], cmp := .none, pl := [] }),
  (62, { kd := .func, size := 1, bytes := 8, zero := [.ot .nilFunc], cmp := .none, pl := [] }),
  (63, { kd := .func, size := 1, bytes := 8, zero := [.ot .nilFunc], cmp := .none, pl := [] }),
  (64, { kd := .other, size := 1, bytes := 0, zero := [], cmp := .none, pl := [] }),
  (65, { kd := .func, size := 1, bytes := 8, zero := [.ot .nilFunc], cmp := .none, pl := [] }),
  (66, { kd := .func, size := 1, bytes := 8, zero := [.ot .nilFunc], cmp := .none, pl := [] }),
  (67, { kd := .func, size := 1, bytes := 8, zero := [.ot .nilFunc], cmp := .none, pl := [] }),
  (68, { kd := .func, size := 1, bytes := 8, zero := [.ot .nilFunc], cmp := .none, pl := [] }),
  (69, { kd := .other, size := 1, bytes := 0, zero := [], cmp := .none, pl := [] }),
  (70, { kd := .func, size := 1, bytes := 8, zero := [.ot .nilFunc], cmp := .none, pl := [] }),
  (71, { kd := .func, size := 1, bytes := 8, zero := [.ot .nilFunc], cmp := .none, pl := [] }),
  (72, { kd := .other, size := 1, bytes := 0, zero := [], cmp := .none, pl := [] }),
  (73, { kd := .func, size := 1, bytes := 8, zero := [.ot .nilFunc], cmp := .none, pl := [] }),
  (74, { kd := .func, size := 1, bytes := 8, zero := [.ot .nilFunc], cmp := .none, pl := [] }),
  (75, { kd := .func, size := 1, bytes := 8, zero := [.ot .nilFunc], cmp := .none, pl := [] }),
  (76, { kd := .func, size := 1, bytes := 8, zero := [.ot .nilFunc], cmp := .none, pl := [] }),
  (77, { kd := .func, size := 1, bytes := 8, zero := [.ot .nilFunc], cmp := .none, pl := [] }),
  (78, { kd := .func, size := 1, bytes := 8, zero := [.ot .nilFunc], cmp := .none, pl := [] }),
  (79, { kd := .func, size := 1, bytes := 8, zero := [.ot .nilFunc], cmp := .none, pl := [] }),
  (80, { kd := .map 3 3, size := 1, bytes := 8, zero := [.ot (.map .none)], cmp := .none, pl := [] }),
  (81, { kd := .struct [(0, 80), (1, 3)], size := 2, bytes := 16, zero := [.ot (.map .none), .it .i64 0], cmp := .none, pl := [(0, 1), (1, 1)] }),
  (82, { kd := .struct [(0, 80), (1, 3)], size := 2, bytes := 16, zero := [.ot (.map .none), .it .i64 0], cmp := .none, pl := [(0, 1), (1, 1)] }),
  (83, { kd := .slice 90, size := 1, bytes := 24, zero := [.fs 38 []], cmp := .none, pl := [] }),
  (84, { kd := .struct [(0, 82), (2, 22), (3, 23), (4, 83), (5, 3)], size := 6, bytes := 96, zero := [.ot (.map .none), .it .i64 0, .fs 32 [], .fs 36 [], .fs 38 [], .it .i64 0], cmp := .none, pl := [(0, 2), (2, 1), (3, 1), (4, 1), (5, 1)] }),
  (85, { kd := .struct [(0, 82), (2, 22), (3, 23), (4, 83), (5, 3)], size := 6, bytes := 96, zero := [.ot (.map .none), .it .i64 0, .fs 32 [], .fs 36 [], .fs 38 [], .it .i64 0], cmp := .none, pl := [(0, 2), (2, 1), (3, 1), (4, 1), (5, 1)] }),
  (86, { kd := .func, size := 1, bytes := 8, zero := [.ot .nilFunc], cmp := .none, pl := [] }),
  (87, { kd := .func, size := 1, bytes := 8, zero := [.ot .nilFunc], cmp := .none, pl := [] }),
  (88, { kd := .slice 46, size := 1, bytes := 24, zero := [.fs 2 []], cmp := .none, pl := [] }),
  (89, { kd := .struct [(0, 3), (1, 48), (37, 88)], size := 38, bytes := 96, zero := [.it .i64 0, .it .i64 0, .it .u8 0, .it .u8 0, .it .u8 0, .it .u8 0, .it .u8 0, .it .u8 0, .it .u8 0, .it .u8 0, .it .u8 0, .it .u8 0, .it .u8 0, .it .u8 0, .it .u8 0, .it .u8 0, .it .u8 0, .it .u8 0, .it .u8 0, .it .u8 0, .it .u8 0, .it .u8 0, .it .u8 0, .it .u8 0, .it .u8 0, .it .u8 0, .it .u8 0, .it .u8 0, .it .u8 0, .it .u8 0, .it .u8 0, .it .u8 0, .it .u8 0, .it .u8 0, .it .i64 0, .it .i64 0, .it .i64 0, .fs 2 []], cmp := .none, pl := [(0, 1), (1, 36), (37, 1)] }),
  (90, { kd := .struct [(0, 3), (1, 48), (37, 88)], size := 38, bytes := 96, zero := [.it .i64 0, .it .i64 0, .it .u8 0, .it .u8 0, .it .u8 0, .it .u8 0, .it .u8 0, .it .u8 0, .it .u8 0, .it .u8 0, .it .u8 0, .it .u8 0, .it .u8 0, .it .u8 0, .it .u8 0, .it .u8 0, .it .u8 0, .it .u8 0, .it .u8 0, .it .u8 0, .it .u8 0, .it .u8 0, .it .u8 0, .it .u8 0, .it .u8 0, .it .u8 0, .it .u8 0, .it .u8 0, .it .u8 0, .it .u8 0, .it .u8 0, .it .u8 0, .it .u8 0, .it .u8 0, .it .i64 0, .it .i64 0, .it .i64 0, .fs 2 []], cmp := .none, pl := [(0, 1), (1, 36), (37, 1)] }),
  (91, { kd := .other, size := 1, bytes := 0, zero := [], cmp := .none, pl := [] }),
  (92, { kd := .func, size := 1, bytes := 8, zero := [.ot .nilFunc], cmp := .none, pl := [] }),
  (93, { kd := .func, size := 1, bytes := 8, zero := [.ot .nilFunc], cmp := .none, pl := [] }),
  (94, { kd := .slice 5, size := 1, bytes := 24, zero := [.fs 1 []], cmp := .none, pl := [] }),
  (95, { kd := .func, size := 1, bytes := 8, zero := [.ot .nilFunc], cmp := .none, pl := [] }),
  (96, { kd := .func, size := 1, bytes := 8, zero := [.ot .nilFunc], cmp := .none, pl := [] }),
  (97, { kd := .func, size := 1, bytes := 8, zero := [.ot .nilFunc], cmp := .none, pl := [] }),
  (98, { kd := .func, size := 1, bytes := 8, zero := [.ot .nilFunc], cmp := .none, pl := [] }),
  (99, { kd := .func, size := 1, bytes := 8, zero := [.ot .nilFunc], cmp := .none, pl := [] }),
  (100, { kd := .func, size := 1, bytes := 8, zero := [.ot .nilFunc], cmp := .none, pl := [] }),
  (101, { kd := .other, size := 1, bytes := 0, zero := [], cmp := .none, pl := [] }),
  (102, { kd := .func, size := 1, bytes := 8, zero := [.ot .nilFunc], cmp := .none, pl := [] }),
  (103, { kd := .func, size := 1, bytes := 8, zero := [.ot .nilFunc], cmp := .none, pl := [] }),
  (104, { kd := .func, size := 1, bytes := 8, zero := [.ot .nilFunc], cmp := .none, pl := [] }),
  (105, { kd := .func, size := 1, bytes := 8, zero := [.ot .nilFunc], cmp := .none, pl := [] }),
  (106, { kd := .func, size := 1, bytes := 8, zero := [.ot .nilFunc], cmp := .none, pl := [] }),
  (107, { kd := .func, size := 1, bytes := 8, zero := [.ot .nilFunc], cmp := .none, pl := [] }),
  (108, { kd := .int .u64, size := 1, bytes := 8, zero := [.it .u64 0], cmp := .some [.it .u64 0], pl := [] }),
  (109, { kd := .ptr 82, size := 1, bytes := 8, zero := [.ot (.pointer .none)], cmp := .none, pl := [] }),
  (110, { kd := .func, size := 1, bytes := 8, zero := [.ot .nilFunc], cmp := .none, pl := [] }),
  (111, { kd := .func, size := 1, bytes := 8, zero := [.ot .nilFunc], cmp := .none, pl := [] }),
  (112, { kd := .func, size := 1, bytes := 8, zero := [.ot .nilFunc], cmp := .none, pl := [] }),
  (113, { kd := .func, size := 1, bytes := 8, zero := [.ot .nilFunc], cmp := .none, pl := [] }),
  (114, { kd := .func, size := 1, bytes := 8, zero := [.ot .nilFunc], cmp := .none, pl := [] }),
  (115, { kd := .func, size := 1, bytes := 8, zero := [.ot .nilFunc], cmp := .none, pl := [] }),
  (116, { kd := .func, size := 1, bytes := 8, zero := [.ot .nilFunc], cmp := .none, pl := [] }),
  (117, { kd := .func, size := 1, bytes := 8, zero := [.ot .nilFunc], cmp := .none, pl := [] }),
  (118, { kd := .func, size := 1, bytes := 8, zero := [.ot .nilFunc], cmp := .none, pl := [] }),
  (119, { kd := .func, size := 1, bytes := 8, zero := [.ot .nilFunc], cmp := .none, pl := [] }),
  (120, { kd := .int .i64, size := 1, bytes := 8, zero := [.it .i64 0], cmp := .some [.it .i64 0], pl := [] }),
  (121, { kd := .other, size := 1, bytes := 0, zero := [], cmp := .none, pl := [] }),
  (122, { kd := .func, size := 1, bytes := 8, zero := [.ot .nilFunc], cmp := .none, pl := [] }),
  (123, { kd := .func, size := 1, bytes := 8, zero := [.ot .nilFunc], cmp := .none, pl := [] }),
  (124, { kd := .func, size := 1, bytes := 8, zero := [.ot .nilFunc], cmp := .none, pl := [] }),
  (125, { kd := .func, size := 1, bytes := 8, zero := [.ot .nilFunc], cmp := .none, pl := [] }),
  (126, { kd := .func, size := 1, bytes := 8, zero := [.ot .nilFunc], cmp := .none, pl := [] }),
  (127, { kd := .func, size := 1, bytes := 8, zero := [.ot .nilFunc], cmp := .none, pl := [] }),
  (128, { kd := .int .u32, size := 1, bytes := 4, zero := [.it .u32 0], cmp := .some [.it .u32 0], pl := [] }),
  (129, { kd := .func, size := 1, bytes := 8, zero := [.ot .nilFunc], cmp := .none, pl := [] }),
  (130, { kd := .int .u64, size := 1, bytes := 8, zero := [.it .u64 0], cmp := .some [.it .u64 0], pl := [] }),
  (131, { kd := .slice 3, size := 1, bytes := 24, zero := [.fs 1 []], cmp := .none, pl := [] }),
  (132, { kd := .func, size := 1, bytes := 8, zero := [.ot .nilFunc], cmp := .none, pl := [] }),
  (133, { kd := .func, size := 1, bytes := 8, zero := [.ot .nilFunc], cmp := .none, pl := [] }),
  (134, { kd := .func, size := 1, bytes := 8, zero := [.ot .nilFunc], cmp := .none, pl := [] }),
  (135, { kd := .func, size := 1, bytes := 8, zero := [.ot .nilFunc], cmp := .none, pl := [] }),
  (136, { kd := .func, size := 1, bytes := 8, zero := [.ot .nilFunc], cmp := .none, pl := [] }),
  (137, { kd := .func, size := 1, bytes := 8, zero := [.ot .nilFunc], cmp := .none, pl := [] }),
  (138, { kd := .func, size := 1, bytes := 8, zero := [.ot .nilFunc], cmp := .none, pl := [] }),
  (139, { kd := .func, size := 1, bytes := 8, zero := [.ot .nilFunc], cmp := .none, pl := [] }),
  (140, { kd := .arr 256 4, size := 256, bytes := 256, zero := [.bl Bool.false, .bl Bool.false, .bl Bool.false, .bl Bool.false, .bl Bool.false, .bl Bool.false, .bl Bool.false, .bl Bool.false, .bl Bool.false, .bl Bool.false, .bl Bool.false, .bl Bool.false, .bl Bool.false, .bl Bool.false, .bl Bool.false, .bl Bool.false, .bl Bool.false, .bl Bool.false, .bl Bool.false, .bl Bool.false, .bl Bool.false, .bl Bool.false, .bl Bool.false, .bl Bool.false, .bl Bool.false, .bl Bool.false, .bl Bool.false, .bl Bool.false, .bl Bool.false, .bl Bool.false, .bl Bool.false, .bl Bool.false, .bl Bool.false, .bl Bool.false, .bl Bool.false, .bl Bool.false, .bl Bool.false, .bl Bool.false, .bl Bool.false, .bl Bool.false, .bl Bool.false, .bl Bool.false, .bl Bool.false, .bl Bool.false, .bl Bool.false, .bl Bool.false, .bl Bool.false, .bl Bool.false, .bl Bool.false, .bl Bool.false, .bl Bool.false, .bl Bool.false, .bl Bool.false, .bl Bool.false, .bl Bool.false, .bl Bool.false, .bl Bool.false, .bl Bool.false, .bl Bool.false, .bl Bool.false, .bl Bool.false, .bl Bool.false, .bl Bool.false, .bl Bool.false, .bl Bool.false, .bl Bool.false, .bl Bool.false, .bl Bool.false, .bl Bool.false, .bl Bool.false, .bl Bool.false, .bl Bool.false, .bl Bool.false, .bl Bool.false, .bl Bool.false, .bl Bool.false, .bl Bool.false, .bl Bool.false, .bl Bool.false, .bl Bool.false, .bl Bool.false, .bl Bool.false, .bl Bool.false, .bl Bool.false, .bl Bool.false, .bl Bool.false, .bl Bool.false, .bl Bool.false, .bl Bool.false, .bl Bool.false, .bl Bool.false, .bl Bool.false, .bl Bool.false, .bl Bool.false, .bl Bool.false, .bl Bool.false, .bl Bool.false, .bl Bool.false, .bl Bool.false, .bl Bool.false, .bl Bool.false, .bl Bool.false, .bl Bool.false, .bl Bool.false, .bl Bool.false, .bl Bool.false, .bl Bool.false, .bl Bool.false, .bl Bool.false, .bl Bool.false, .bl Bool.false, .bl Bool.false, .bl Bool.false, .bl Bool.false, .bl Bool.false, .bl Bool.false, .bl Bool.false, .bl Bool.false, .bl Bool.false, .bl Bool.false, .bl Bool.false, .bl Bool.false, .bl Bool.false, .bl Bool.false, .bl Bool.false, .bl Bool.false, .bl Bool.false, .bl Bool.false, .bl Bool.false, .bl Bool.false, .bl Bool.false, .bl Bool.false, .bl Bool.false, .bl Bool.false, .bl Bool.false, .bl Bool.false, .bl Bool.false, .bl Bool.false, .bl Bool.false, .bl Bool.false, .bl Bool.false, .bl Bool.false, .bl Bool.false, .bl Bool.false, .bl Bool.false, .bl Bool.false, .bl Bool.false, .bl Bool.false, .bl Bool.false, .bl Bool.false, .bl Bool.false, .bl Bool.false, .bl Bool.false, .bl Bool.false, .bl Bool.false, .bl Bool.false, .bl Bool.false, .bl Bool.false, .bl Bool.false, .bl Bool.false, .bl Bool.false, .bl Bool.false, .bl Bool.false, .bl Bool.false, .bl Bool.false, .bl Bool.false, .bl Bool.false, .bl Bool.false, .bl Bool.false, .bl Bool.false, .bl Bool.false, .bl Bool.false, .bl Bool.false, .bl Bool.false, .bl Bool.false, .bl Bool.false, .bl Bool.false, .bl Bool.false, .bl Bool.false, .bl Bool.false, .bl Bool.false, .bl Bool.false, .bl Bool.false, .bl Bool.false, .bl Bool.false, .bl Bool.false, .bl Bool.false, .bl Bool.false, .bl Bool.false, .bl Bool.false, .bl Bool.false, .bl Bool.false, .bl Bool.false, .bl Bool.false, .bl Bool.false, .bl Bool.false, .bl Bool.false, .bl Bool.false, .bl Bool.false, .bl Bool.false, .bl Bool.false, .bl Bool.false, .bl Bool.false, .bl Bool.false, .bl Bool.false, .bl Bool.false, .bl Bool.false, .bl Bool.false, .bl Bool.false, .bl Bool.false, .bl Bool.false, .bl Bool.false, .bl Bool.false, .bl Bool.false, .bl Bool.false, .bl Bool.false, .bl Bool.false, .bl Bool.false, .bl Bool.false, .bl Bool.false, .bl Bool.false, .bl Bool.false, .bl Bool.false, .bl Bool.false, .bl Bool.false, .bl Bool.false, .bl Bool.false, .bl Bool.false, .bl Bool.false, .bl Bool.false, .bl Bool.false, .bl Bool.false, .bl Bool.false, .bl Bool.false, .bl Bool.false, .bl Bool.false, .bl Bool.false, .bl Bool.false, .bl Bool.false, .bl Bool.false, .bl Bool.false, .bl Bool.false, .bl Bool.false, .bl Bool.false, .bl Bool.false, .bl Bool.false, .bl Bool.false, .bl Bool.false, .bl Bool.false, .bl Bool.false, .bl Bool.false, .bl Bool.false, .bl Bool.false, .bl Bool.false, .bl Bool.false, .bl Bool.false], cmp := .some [.bl Bool.false, .bl Bool.false, .bl Bool.false, .bl Bool.false, .bl Bool.false, .bl Bool.false, .bl Bool.false, .bl Bool.false, .bl Bool.false, .bl Bool.false, .bl Bool.false, .bl Bool.false, .bl Bool.false, .bl Bool.false, .bl Bool.false, .bl Bool.false, .bl Bool.false, .bl Bool.false, .bl Bool.false, .bl Bool.false, .bl Bool.false, .bl Bool.false, .bl Bool.false, .bl Bool.false, .bl Bool.false, .bl Bool.false, .bl Bool.false, .bl Bool.false, .bl Bool.false, .bl Bool.false, .bl Bool.false, .bl Bool.false, .bl Bool.false, .bl Bool.false, .bl Bool.false, .bl Bool.false, .bl Bool.false, .bl Bool.false, .bl Bool.false, .bl Bool.false, .bl Bool.false, .bl Bool.false, .bl Bool.false, .bl Bool.false, .bl Bool.false, .bl Bool.false, .bl Bool.false, .bl Bool.false, .bl Bool.false, .bl Bool.false, .bl Bool.false, .bl Bool.false, .bl Bool.false, .bl Bool.false, .bl Bool.false, .bl Bool.false, .bl Bool.false, .bl Bool.false, .bl Bool.false, .bl Bool.false, .bl Bool.false, .bl Bool.false, .bl Bool.false, .bl Bool.false, .bl Bool.false, .bl Bool.false, .bl Bool.false, .bl Bool.false, .bl Bool.false, .bl Bool.false, .bl Bool.false, .bl Bool.false, .bl Bool.false, .bl Bool.false, .bl Bool.false, .bl Bool.false, .bl Bool.false, .bl Bool.false, .bl Bool.false, .bl Bool.false, .bl Bool.false, .bl Bool.false, .bl Bool.false, .bl Bool.false, .bl Bool.false, .bl Bool.false, .bl Bool.false, .bl Bool.false, .bl Bool.false, .bl Bool.false, .bl Bool.false, .bl Bool.false, .bl Bool.false, .bl Bool.false, .bl Bool.false, .bl Bool.false, .bl Bool.false, .bl Bool.false, .bl Bool.false, .bl Bool.false, .bl Bool.false, .bl Bool.false, .bl Bool.false, .bl Bool.false, .bl Bool.false, .bl Bool.false, .bl Bool.false, .bl Bool.false, .bl Bool.false, .bl Bool.false, .bl Bool.false, .bl Bool.false, .bl Bool.false, .bl Bool.false, .bl Bool.false, .bl Bool.false, .bl Bool.false, .bl Bool.false, .bl Bool.false, .bl Bool.false, .bl Bool.false, .bl Bool.false, .bl Bool.false, .bl Bool.false, .bl Bool.false, .bl Bool.false, .bl Bool.false, .bl Bool.false, .bl Bool.false, .bl Bool.false, .bl Bool.false, .bl Bool.false, .bl Bool.false, .bl Bool.false, .bl Bool.false, .bl Bool.false, .bl Bool.false, .bl Bool.false, .bl Bool.false, .bl Bool.false, .bl Bool.false, .bl Bool.false, .bl Bool.false, .bl Bool.false, .bl Bool.false, .bl Bool.false, .bl Bool.false, .bl Bool.false, .bl Bool.false, .bl Bool.false, .bl Bool.false, .bl Bool.false, .bl Bool.false, .bl Bool.false, .bl Bool.false, .bl Bool.false, .bl Bool.false, .bl Bool.false, .bl Bool.false, .bl Bool.false, .bl Bool.false, .bl Bool.false, .bl Bool.false, .bl Bool.false, .bl Bool.false, .bl Bool.false, .bl Bool.false, .bl Bool.false, .bl Bool.false, .bl Bool.false, .bl Bool.false, .bl Bool.false, .bl Bool.false, .bl Bool.false, .bl Bool.false, .bl Bool.false, .bl Bool.false, .bl Bool.false, .bl Bool.false, .bl Bool.false, .bl Bool.false, .bl Bool.false, .bl Bool.false, .bl Bool.false, .bl Bool.false, .bl Bool.false, .bl Bool.false, .bl Bool.false, .bl Bool.false, .bl Bool.false, .bl Bool.false, .bl Bool.false, .bl Bool.false, .bl Bool.false, .bl Bool.false, .bl Bool.false, .bl Bool.false, .bl Bool.false, .bl Bool.false, .bl Bool.false, .bl Bool.false, .bl Bool.false, .bl Bool.false, .bl Bool.false, .bl Bool.false, .bl Bool.false, .bl Bool.false, .bl Bool.false, .bl Bool.false, .bl Bool.false, .bl Bool.false, .bl Bool.false, .bl Bool.false, .bl Bool.false, .bl Bool.false, .bl Bool.false, .bl Bool.false, .bl Bool.false, .bl Bool.false, .bl Bool.false, .bl Bool.false, .bl Bool.false, .bl Bool.false, .bl Bool.false, .bl Bool.false, .bl Bool.false, .bl Bool.false, .bl Bool.false, .bl Bool.false, .bl Bool.false, .bl Bool.false, .bl Bool.false, .bl Bool.false, .bl Bool.false, .bl Bool.false, .bl Bool.false, .bl Bool.false, .bl Bool.false, .bl Bool.false, .bl Bool.false, .bl Bool.false, .bl Bool.false, .bl Bool.false, .bl Bool.false, .bl Bool.false, .bl Bool.false, .bl Bool.false, .bl Bool.false, .bl Bool.false, .bl Bool.false, .bl Bool.false, .bl Bool.false, .bl Bool.false, .bl Bool.false, .bl Bool.false, .bl Bool.false], pl := [] }),
  (141, { kd := .arr 256 4, size := 256, bytes := 256, zero := [.bl Bool.false, .bl Bool.false, .bl Bool.false, .bl Bool.false, .bl Bool.false, .bl Bool.false, .bl Bool.false, .bl Bool.false, .bl Bool.false, .bl Bool.false, .bl Bool.false, .bl Bool.false, .bl Bool.false, .bl Bool.false, .bl Bool.false, .bl Bool.false, .bl Bool.false, .bl Bool.false, .bl Bool.false, .bl Bool.false, .bl Bool.false, .bl Bool.false, .bl Bool.false, .bl Bool.false, .bl Bool.false, .bl Bool.false, .bl Bool.false, .bl Bool.false, .bl Bool.false, .bl Bool.false, .bl Bool.false, .bl Bool.false, .bl Bool.false, .bl Bool.false, .bl Bool.false, .bl Bool.false, .bl Bool.false, .bl Bool.false, .bl Bool.false, .bl Bool.false, .bl Bool.false, .bl Bool.false, .bl Bool.false, .bl Bool.false, .bl Bool.false, .bl Bool.false, .bl Bool.false, .bl Bool.false, .bl Bool.false, .bl Bool.false, .bl Bool.false, .bl Bool.false, .bl Bool.false, .bl Bool.false, .bl Bool.false, .bl Bool.false, .bl Bool.false, .bl Bool.false, .bl Bool.false, .bl Bool.false, .bl Bool.false, .bl Bool.false, .bl Bool.false, .bl Bool.false, .bl Bool.false, .bl Bool.false, .bl Bool.false, .bl Bool.false, .bl Bool.false, .bl Bool.false, .bl Bool.false, .bl Bool.false, .bl Bool.false, .bl Bool.false, .bl Bool.false, .bl Bool.false, .bl Bool.false, .bl Bool.false, .bl Bool.false, .bl Bool.false, .bl Bool.false, .bl Bool.false, .bl Bool.false, .bl Bool.false, .bl Bool.false, .bl Bool.false, .bl Bool.false, .bl Bool.false, .bl Bool.false, .bl Bool.false, .bl Bool.false, .bl Bool.false, .bl Bool.false, .bl Bool.false, .bl Bool.false, .bl Bool.false, .bl Bool.false, .bl Bool.false, .bl Bool.false, .bl Bool.false, .bl Bool.false, .bl Bool.false, .bl Bool.false, .bl Bool.false, .bl Bool.false, .bl Bool.false, .bl Bool.false, .bl Bool.false, .bl Bool.false, .bl Bool.false, .bl Bool.false, .bl Bool.false, .bl Bool.false, .bl Bool.false, .bl Bool.false, .bl Bool.false, .bl Bool.false, .bl Bool.false, .bl Bool.false, .bl Bool.false, .bl Bool.false, .bl Bool.false, .bl Bool.false, .bl Bool.false, .bl Bool.false, .bl Bool.false, .bl Bool.false, .bl Bool.false, .bl Bool.false, .bl Bool.false, .bl Bool.false, .bl Bool.false, .bl Bool.false, .bl Bool.false, .bl Bool.false, .bl Bool.false, .bl Bool.false, .bl Bool.false, .bl Bool.false, .bl Bool.false, .bl Bool.false, .bl Bool.false, .bl Bool.false, .bl Bool.false, .bl Bool.false, .bl Bool.false, .bl Bool.false, .bl Bool.false, .bl Bool.false, .bl Bool.false, .bl Bool.false, .bl Bool.false, .bl Bool.false, .bl Bool.false, .bl Bool.false, .bl Bool.false, .bl Bool.false, .bl Bool.false, .bl Bool.false, .bl Bool.false, .bl Bool.false, .bl Bool.false, .bl Bool.false, .bl Bool.false, .bl Bool.false, .bl Bool.false, .bl Bool.false, .bl Bool.false, .bl Bool.false, .bl Bool.false, .bl Bool.false, .bl Bool.false, .bl Bool.false, .bl Bool.false, .bl Bool.false, .bl Bool.false, .bl Bool.false, .bl Bool.false, .bl Bool.false, .bl Bool.false, .bl Bool.false, .bl Bool.false, .bl Bool.false, .bl Bool.false, .bl Bool.false, .bl Bool.false, .bl Bool.false, .bl Bool.false, .bl Bool.false, .bl Bool.false, .bl Bool.false, .bl Bool.false, .bl Bool.false, .bl Bool.false, .bl Bool.false, .bl Bool.false, .bl Bool.false, .bl Bool.false, .bl Bool.false, .bl Bool.false, .bl Bool.false, .bl Bool.false, .bl Bool.false, .bl Bool.false, .bl Bool.false, .bl Bool.false, .bl Bool.false, .bl Bool.false, .bl Bool.false, .bl Bool.false, .bl Bool.false, .bl Bool.false, .bl Bool.false, .bl Bool.false, .bl Bool.false, .bl Bool.false, .bl Bool.false, .bl Bool.false, .bl Bool.false, .bl Bool.false, .bl Bool.false, .bl Bool.false, .bl Bool.false, .bl Bool.false, .bl Bool.false, .bl Bool.false, .bl Bool.false, .bl Bool.false, .bl Bool.false, .bl Bool.false, .bl Bool.false, .bl Bool.false, .bl Bool.false, .bl Bool.false, .bl Bool.false, .bl Bool.false, .bl Bool.false, .bl Bool.false, .bl Bool.false, .bl Bool.false, .bl Bool.false, .bl Bool.false, .bl Bool.false, .bl Bool.false, .bl Bool.false, .bl Bool.false, .bl Bool.false, .bl Bool.false, .bl Bool.false, .bl Bool.false, .bl Bool.false, .bl Bool.false, .bl Bool.false, .bl Bool.false, .bl Bool.false, .bl Bool.false], cmp := .some [.bl Bool.false, .bl Bool.false, .bl Bool.false, .bl Bool.false, .bl Bool.false, .bl Bool.false, .bl Bool.false, .bl Bool.false, .bl Bool.false, .bl Bool.false, .bl Bool.false, .bl Bool.false, .bl Bool.false, .bl Bool.false, .bl Bool.false, .bl Bool.false, .bl Bool.false, .bl Bool.false, .bl Bool.false, .bl Bool.false, .bl Bool.false, .bl Bool.false, .bl Bool.false, .bl Bool.false, .bl Bool.false, .bl Bool.false, .bl Bool.false, .bl Bool.false, .bl Bool.false, .bl Bool.false, .bl Bool.false, .bl Bool.false, .bl Bool.false, .bl Bool.false, .bl Bool.false, .bl Bool.false, .bl Bool.false, .bl Bool.false, .bl Bool.false, .bl Bool.false, .bl Bool.false, .bl Bool.false, .bl Bool.false, .bl Bool.false, .bl Bool.false, .bl Bool.false, .bl Bool.false, .bl Bool.false, .bl Bool.false, .bl Bool.false, .bl Bool.false, .bl Bool.false, .bl Bool.false, .bl Bool.false, .bl Bool.false, .bl Bool.false, .bl Bool.false, .bl Bool.false, .bl Bool.false, .bl Bool.false, .bl Bool.false, .bl Bool.false, .bl Bool.false, .bl Bool.false, .bl Bool.false, .bl Bool.false, .bl Bool.false, .bl Bool.false, .bl Bool.false, .bl Bool.false, .bl Bool.false, .bl Bool.false, .bl Bool.false, .bl Bool.false, .bl Bool.false, .bl Bool.false, .bl Bool.false, .bl Bool.false, .bl Bool.false, .bl Bool.false, .bl Bool.false, .bl Bool.false, .bl Bool.false, .bl Bool.false, .bl Bool.false, .bl Bool.false, .bl Bool.false, .bl Bool.false, .bl Bool.false, .bl Bool.false, .bl Bool.false, .bl Bool.false, .bl Bool.false, .bl Bool.false, .bl Bool.false, .bl Bool.false, .bl Bool.false, .bl Bool.false, .bl Bool.false, .bl Bool.false, .bl Bool.false, .bl Bool.false, .bl Bool.false, .bl Bool.false, .bl Bool.false, .bl Bool.false, .bl Bool.false, .bl Bool.false, .bl Bool.false, .bl Bool.false, .bl Bool.false, .bl Bool.false, .bl Bool.false, .bl Bool.false, .bl Bool.false, .bl Bool.false, .bl Bool.false, .bl Bool.false, .bl Bool.false, .bl Bool.false, .bl Bool.false, .bl Bool.false, .bl Bool.false, .bl Bool.false, .bl Bool.false, .bl Bool.false, .bl Bool.false, .bl Bool.false, .bl Bool.false, .bl Bool.false, .bl Bool.false, .bl Bool.false, .bl Bool.false, .bl Bool.false, .bl Bool.false, .bl Bool.false, .bl Bool.false, .bl Bool.false, .bl Bool.false, .bl Bool.false, .bl Bool.false, .bl Bool.false, .bl Bool.false, .bl Bool.false, .bl Bool.false, .bl Bool.false, .bl Bool.false, .bl Bool.false, .bl Bool.false, .bl Bool.false, .bl Bool.false, .bl Bool.false, .bl Bool.false, .bl Bool.false, .bl Bool.false, .bl Bool.false, .bl Bool.false, .bl Bool.false, .bl Bool.false, .bl Bool.false, .bl Bool.false, .bl Bool.false, .bl Bool.false, .bl Bool.false, .bl Bool.false, .bl Bool.false, .bl Bool.false, .bl Bool.false, .bl Bool.false, .bl Bool.false, .bl Bool.false, .bl Bool.false, .bl Bool.false, .bl Bool.false, .bl Bool.false, .bl Bool.false, .bl Bool.false, .bl Bool.false, .bl Bool.false, .bl Bool.false, .bl Bool.false, .bl Bool.false, .bl Bool.false, .bl Bool.false, .bl Bool.false, .bl Bool.false, .bl Bool.false, .bl Bool.false, .bl Bool.false, .bl Bool.false, .bl Bool.false, .bl Bool.false, .bl Bool.false, .bl Bool.false, .bl Bool.false, .bl Bool.false, .bl Bool.false, .bl Bool.false, .bl Bool.false, .bl Bool.false, .bl Bool.false, .bl Bool.false, .bl Bool.false, .bl Bool.false, .bl Bool.false, .bl Bool.false, .bl Bool.false, .bl Bool.false, .bl Bool.false, .bl Bool.false, .bl Bool.false, .bl Bool.false, .bl Bool.false, .bl Bool.false, .bl Bool.false, .bl Bool.false, .bl Bool.false, .bl Bool.false, .bl Bool.false, .bl Bool.false, .bl Bool.false, .bl Bool.false, .bl Bool.false, .bl Bool.false, .bl Bool.false, .bl Bool.false, .bl Bool.false, .bl Bool.false, .bl Bool.false, .bl Bool.false, .bl Bool.false, .bl Bool.false, .bl Bool.false, .bl Bool.false, .bl Bool.false, .bl Bool.false, .bl Bool.false, .bl Bool.false, .bl Bool.false, .bl Bool.false, .bl Bool.false, .bl Bool.false, .bl Bool.false, .bl Bool.false, .bl Bool.false, .bl Bool.false, .bl Bool.false, .bl Bool.false, .bl Bool.false, .bl Bool.false, .bl Bool.false, .bl Bool.false, .bl Bool.false, .bl Bool.false, .bl Bool.false, .bl Bool.false], pl := [] }),
  (142, { kd := .other, size := 1, bytes := 0, zero := [], cmp := .none, pl := [] }),
  (143, { kd := .func, size := 1, bytes := 8, zero := [.ot .nilFunc], cmp := .none, pl := [] }),
  (144, { kd := .func, size := 1, bytes := 8, zero := [.ot .nilFunc], cmp := .none, pl := [] }),
  (145, { kd := .ptr 141, size := 1, bytes := 8, zero := [.ot (.pointer .none)], cmp := .none, pl := [] }),
  (146, { kd := .int .u64, size := 1, bytes := 8, zero := [.it .u64 0], cmp := .some [.it .u64 0], pl := [] }),
  (147, { kd := .func, size := 1, bytes := 8, zero := [.ot .nilFunc], cmp := .none, pl := [] }),
  (148, { kd := .func, size := 1, bytes := 8, zero := [.ot .nilFunc], cmp := .none, pl := [] }),
  (149, { kd := .func, size := 1, bytes := 8, zero := [.ot .nilFunc], cmp := .none, pl := [] }),
  (150, { kd := .ptr 3, size := 1, bytes := 8, zero := [.ot (.pointer .none)], cmp := .none, pl := [] }),
  (151, { kd := .func, size := 1, bytes := 8, zero := [.ot .nilFunc], cmp := .none, pl := [] }),
  (152, { kd := .func, size := 1, bytes := 8, zero := [.ot .nilFunc], cmp := .none, pl := [] }),
  (153, { kd := .func, size := 1, bytes := 8, zero := [.ot .nilFunc], cmp := .none, pl := [] }),
  (154, { kd := .func, size := 1, bytes := 8, zero := [.ot .nilFunc], cmp := .none, pl := [] }),
  (155, { kd := .other, size := 1, bytes := 0, zero := [], cmp := .none, pl := [] }),
  (156, { kd := .func, size := 1, bytes := 8, zero := [.ot .nilFunc], cmp := .none, pl := [] }),
  (157, { kd := .func, size := 1, bytes := 8, zero := [.ot .nilFunc], cmp := .none, pl := [] }),
  (158, { kd := .func, size := 1, bytes := 8, zero := [.ot .nilFunc], cmp := .none, pl := [] }),
  (159, { kd := .func, size := 1, bytes := 8, zero := [.ot .nilFunc], cmp := .none, pl := [] }),
  (160, { kd := .ptr 146, size := 1, bytes := 8, zero := [.ot (.pointer .none)], cmp := .none, pl := [] }),
  (161, { kd := .other, size := 1, bytes := 0, zero := [], cmp := .none, pl := [] }),
  (162, { kd := .func, size := 1, bytes := 8, zero := [.ot .nilFunc], cmp := .none, pl := [] }),
  (163, { kd := .func, size := 1, bytes := 8, zero := [.ot .nilFunc], cmp := .none, pl := [] }),
  (164, { kd := .func, size := 1, bytes := 8, zero := [.ot .nilFunc], cmp := .none, pl := [] }),
  (165, { kd := .func, size := 1, bytes := 8, zero := [.ot .nilFunc], cmp := .none, pl := [] }),
  (166, { kd := .func, size := 1, bytes := 8, zero := [.ot .nilFunc], cmp := .none, pl := [] }),
  (167, { kd := .func, size := 1, bytes := 8, zero := [.ot .nilFunc], cmp := .none, pl := [] }),
  (168, { kd := .func, size := 1, bytes := 8, zero := [.ot .nilFunc], cmp := .none, pl := [] }),
  (169, { kd := .func, size := 1, bytes := 8, zero := [.ot .nilFunc], cmp := .none, pl := [] }),
  (170, { kd := .func, size := 1, bytes := 8, zero := [.ot .nilFunc], cmp := .none, pl := [] }),
  (172, { kd := .struct [(0, 5), (1, 5)], size := 2, bytes := 2, zero := [.it .u8 0, .it .u8 0], cmp := .some [.it .u8 0, .it .u8 0], pl := [(0, 1), (1, 1)] }),
  (173, { kd := .struct [(0, 5), (1, 5)], size := 2, bytes := 2, zero := [.it .u8 0, .it .u8 0], cmp := .some [.it .u8 0, .it .u8 0], pl := [(0, 1), (1, 1)] }),
  (174, { kd := .arr 16 173, size := 32, bytes := 32, zero := [.it .u8 0, .it .u8 0, .it .u8 0, .it .u8 0, .it .u8 0, .it .u8 0, .it .u8 0, .it .u8 0, .it .u8 0, .it .u8 0, .it .u8 0, .it .u8 0, .it .u8 0, .it .u8 0, .it .u8 0, .it .u8 0, .it .u8 0, .it .u8 0, .it .u8 0, .it .u8 0, .it .u8 0, .it .u8 0, .it .u8 0, .it .u8 0, .it .u8 0, .it .u8 0, .it .u8 0, .it .u8 0, .it .u8 0, .it .u8 0, .it .u8 0, .it .u8 0], cmp := .some [.it .u8 0, .it .u8 0, .it .u8 0, .it .u8 0, .it .u8 0, .it .u8 0, .it .u8 0, .it .u8 0, .it .u8 0, .it .u8 0, .it .u8 0, .it .u8 0, .it .u8 0, .it .u8 0, .it .u8 0, .it .u8 0, .it .u8 0, .it .u8 0, .it .u8 0, .it .u8 0, .it .u8 0, .it .u8 0, .it .u8 0, .it .u8 0, .it .u8 0, .it .u8 0, .it .u8 0, .it .u8 0, .it .u8 0, .it .u8 0, .it .u8 0, .it .u8 0], pl := [] }),
  (175, { kd := .other, size := 1, bytes := 0, zero := [], cmp := .none, pl := [] }),
  (176, { kd := .func, size := 1, bytes := 8, zero := [.ot .nilFunc], cmp := .none, pl := [] }),
  (177, { kd := .func, size := 1, bytes := 8, zero := [.ot .nilFunc], cmp := .none, pl := [] }),
  (178, { kd := .func, size := 1, bytes := 8, zero := [.ot .nilFunc], cmp := .none, pl := [] }),
  (179, { kd := .func, size := 1, bytes := 8, zero := [.ot .nilFunc], cmp := .none, pl := [] }),
  (180, { kd := .struct [(0, 17), (1, 17), (2, 17), (3, 9)], size := 4, bytes := 40, zero := [.ot (.pointer .none), .ot (.pointer .none), .ot (.pointer .none), .st []], cmp := .none, pl := [(0, 1), (1, 1), (2, 1), (3, 1)] }),
  (181, { kd := .struct [(0, 17), (1, 17), (2, 17), (3, 9)], size := 4, bytes := 40, zero := [.ot (.pointer .none), .ot (.pointer .none), .ot (.pointer .none), .st []], cmp := .none, pl := [(0, 1), (1, 1), (2, 1), (3, 1)] }),
  (182, { kd := .arr 0 16, size := 0, bytes := 0, zero := [], cmp := .none, pl := [] }),
  (183, { kd := .struct [(0, 182)], size := 0, bytes := 0, zero := [], cmp := .none, pl := [(0, 0)] }),
  (184, { kd := .struct [(0, 182)], size := 0, bytes := 0, zero := [], cmp := .none, pl := [(0, 0)] }),
  (185, { kd := .func, size := 1, bytes := 8, zero := [.ot .nilFunc], cmp := .none, pl := [] }),
  (186, { kd := .int .u8, size := 1, bytes := 1, zero := [.it .u8 0], cmp := .some [.it .u8 0], pl := [] }),
  (187, { kd := .int .u8, size := 1, bytes := 1, zero := [.it .u8 0], cmp := .some [.it .u8 0], pl := [] }),
  (188, { kd := .func, size := 1, bytes := 8, zero := [.ot .nilFunc], cmp := .none, pl := [] }),
  (189, { kd := .ptr 5, size := 1, bytes := 8, zero := [.ot (.pointer .none)], cmp := .none, pl := [] }),
  (190, { kd := .int .i32, size := 1, bytes := 4, zero := [.it .i32 0], cmp := .some [.it .i32 0], pl := [] }),
  (191, { kd := .int .i32, size := 1, bytes := 4, zero := [.it .i32 0], cmp := .some [.it .i32 0], pl := [] }),
  (192, { kd := .struct [(0, 12), (1, 12), (2, 128), (3, 186), (4, 5), (5, 5), (6, 187), (7, 188), (8, 189), (9, 190), (10, 191)], size := 11, bytes := 48, zero := [.it .u64 0, .it .u64 0, .it .u32 0, .it .u8 0, .it .u8 0, .it .u8 0, .it .u8 0, .ot .nilFunc, .ot (.pointer .none), .it .i32 0, .it .i32 0], cmp := .none, pl := [(0, 1), (1, 1), (2, 1), (3, 1), (4, 1), (5, 1), (6, 1), (7, 1), (8, 1), (9, 1), (10, 1)] }),
  (193, { kd := .struct [(0, 12), (1, 12), (2, 128), (3, 186), (4, 5), (5, 5), (6, 187), (7, 188), (8, 189), (9, 190), (10, 191)], size := 11, bytes := 48, zero := [.it .u64 0, .it .u64 0, .it .u32 0, .it .u8 0, .it .u8 0, .it .u8 0, .it .u8 0, .ot .nilFunc, .ot (.pointer .none), .it .i32 0, .it .i32 0], cmp := .none, pl := [(0, 1), (1, 1), (2, 1), (3, 1), (4, 1), (5, 1), (6, 1), (7, 1), (8, 1), (9, 1), (10, 1)] }),
  (194, { kd := .usafe, size := 1, bytes := 8, zero := [.ot (.pointer .none)], cmp := .none, pl := [] })]
def ti (t : Nat) : Option Ty := Go.Sy.look t tyL
theorem tyL_ok : tyL.map (fun p => tyOf Tryz.prog p.1) = tyL.map (fun p => some p.2) := by kernel_rfl
theorem ti_ok : TiOK Tryz.prog ti := tiOK_of tyL_ok
end Go.Proofs.YtfpcclakpklghaaGreatDoor

/- What entering each function needs. Conditions: none. -/
namespace Go.Proofs.YtfpcclakpklghaaGreatDoor
open Go.Sy
set_option maxRecDepth 100000
/-- gosem.cut.init -/
theorem i2 : FnI Tryz.prog 2 1 [] (bd Tryz.f2) := FnI.mk' Tryz.func2 rfl rfl rfl Tryz.call2
/-- flotsam/flotsamlaw09.LookReads -/
theorem i3 : FnI Tryz.prog 3 62 [.tmp 8] (bd Tryz.f3) := FnI.mk' Tryz.func3 rfl rfl rfl Tryz.call3
/-- flotsam/flotsamlaw09.knows -/
theorem i4 : FnI Tryz.prog 4 76 [.tmp 0] (bd Tryz.f4) := FnI.mk' Tryz.func4 rfl rfl rfl Tryz.call4
/-- flotsam/flotsamlaw09.Disk -/
theorem i5 : FnI Tryz.prog 5 37 [.tmp 4] (bd Tryz.f5) := FnI.mk' Tryz.func5 rfl rfl rfl Tryz.call5
/-- flotsam/flotsamref09.With -/
theorem i6 : FnI Tryz.prog 6 53 [.tmp 4] (bd Tryz.f6) := FnI.mk' Tryz.func6 rfl rfl rfl Tryz.call6
/-- flotsam/look.Inode -/
theorem i7 : FnI Tryz.prog 7 23 [.cell 4 30] (bd Tryz.f7) := FnI.mk' Tryz.func7 rfl rfl rfl Tryz.call7
/-- flotsam/flotsamref09.Inode -/
theorem i8 : FnI Tryz.prog 8 23 [.cell 4 30] (bd Tryz.f8) := FnI.mk' Tryz.func8 rfl rfl rfl Tryz.call8
/-- flotsam/look.Entry -/
theorem i9 : FnI Tryz.prog 9 23 [.cell 4 34] (bd Tryz.f9) := FnI.mk' Tryz.func9 rfl rfl rfl Tryz.call9
/-- flotsam/flotsamref09.Entry -/
theorem i10 : FnI Tryz.prog 10 23 [.cell 4 34] (bd Tryz.f10) := FnI.mk' Tryz.func10 rfl rfl rfl Tryz.call10
/-- flotsam/look.Taken -/
theorem i11 : FnI Tryz.prog 11 17 [.cell 4 4] (bd Tryz.f11) := FnI.mk' Tryz.func11 rfl rfl rfl Tryz.call11
/-- flotsam/flotsamref09.Taken -/
theorem i12 : FnI Tryz.prog 12 24 [.tmp 4] (bd Tryz.f12) := FnI.mk' Tryz.func12 rfl rfl rfl Tryz.call12
/-- flotsam/look.Mounted -/
theorem i13 : FnI Tryz.prog 13 25 [.tmp 2] (bd Tryz.f13) := FnI.mk' Tryz.func13 rfl rfl rfl Tryz.call13
/-- flotsam/flotsamref07.Mounts -/
theorem i14 : FnI Tryz.prog 14 28 [.tmp 2] (bd Tryz.f14) := FnI.mk' Tryz.func14 rfl rfl rfl Tryz.call14
/-- flotsam/flotsamref07.Empty -/
theorem i15 : FnI Tryz.prog 15 10 [.tmp 0] (bd Tryz.f15) := FnI.mk' Tryz.func15 rfl rfl rfl Tryz.call15
/-- flotsam/look.Lookup -/
theorem i16 : FnI Tryz.prog 16 35 [.tmp 4, .tmp 5] (bd Tryz.f16) := FnI.mk' Tryz.func16 rfl rfl rfl Tryz.call16
/-- flotsam/look.Find -/
theorem i17 : FnI Tryz.prog 17 20 [.cell 6 3, .cell 7 4] (bd Tryz.f17) := FnI.mk' Tryz.func17 rfl rfl rfl Tryz.call17
/-- flotsam/flotsamlaw09.num -/
theorem i18 : FnI Tryz.prog 18 4 [.tmp 2] (bd Tryz.f18) := FnI.mk' Tryz.func18 rfl rfl rfl Tryz.call18
/-- flotsam/look.List -/
theorem i19 : FnI Tryz.prog 19 22 [.tmp 4] (bd Tryz.f19) := FnI.mk' Tryz.func19 rfl rfl rfl Tryz.call19
/-- flotsam/bdisk.From -/
theorem i20 : FnI Tryz.prog 20 19 [.tmp 2, .tmp 3] (bd Tryz.f20) := FnI.mk' Tryz.func20 rfl rfl rfl Tryz.call20
/-- (*flotsam/bdisk.Disk).Write -/
theorem i21 : FnI Tryz.prog 21 46 [.tmp 8] (bd Tryz.f21) := FnI.mk' Tryz.func21 rfl rfl rfl Tryz.call21
/-- flotsam/layout.InodeOf -/
theorem i22 : FnI Tryz.prog 22 41 [.cell 2 30, .tmp 3] (bd Tryz.f22) := FnI.mk' Tryz.func22 rfl rfl rfl Tryz.call22
/-- flotsam/look.at -/
theorem i23 : FnI Tryz.prog 23 14 [.cell 4 44] (bd Tryz.f23) := FnI.mk' Tryz.func23 rfl rfl rfl Tryz.call23
/-- flotsam/flotsamref07.InodeOf -/
theorem i24 : FnI Tryz.prog 24 41 [.cell 2 30, .tmp 3] (bd Tryz.f24) := FnI.mk' Tryz.func24 rfl rfl rfl Tryz.call24
/-- flotsam/flotsamref09.at -/
theorem i25 : FnI Tryz.prog 25 14 [.cell 4 44] (bd Tryz.f25) := FnI.mk' Tryz.func25 rfl rfl rfl Tryz.call25
/-- flotsam/layout.EntryOf -/
theorem i26 : FnI Tryz.prog 26 37 [.cell 2 34, .tmp 3] (bd Tryz.f26) := FnI.mk' Tryz.func26 rfl rfl rfl Tryz.call26
/-- flotsam/flotsamref07.EntryOf -/
theorem i27 : FnI Tryz.prog 27 42 [.cell 2 34, .tmp 3] (bd Tryz.f27) := FnI.mk' Tryz.func27 rfl rfl rfl Tryz.call27
/-- flotsam/look.used -/
theorem i28 : FnI Tryz.prog 28 4 [.tmp 2] (bd Tryz.f28) := FnI.mk' Tryz.func28 rfl rfl rfl Tryz.call28
/-- (*flotsam/bdisk.Disk).Read -/
theorem i29 : FnI Tryz.prog 29 33 [.cell 4 44, .cell 5 49] (bd Tryz.f29) := FnI.mk' Tryz.func29 rfl rfl rfl Tryz.call29
/-- flotsam/layout.Mounts -/
theorem i30 : FnI Tryz.prog 30 28 [.tmp 2] (bd Tryz.f30) := FnI.mk' Tryz.func30 rfl rfl rfl Tryz.call30
/-- flotsam/flotsamref07.Super -/
theorem i31 : FnI Tryz.prog 31 2 [.cell 0 44] (bd Tryz.f31) := FnI.mk' Tryz.func31 rfl rfl rfl Tryz.call31
/-- flotsam/path.Split -/
theorem i32 : FnI Tryz.prog 32 28 [.tmp 2, .tmp 3] (bd Tryz.f32) := FnI.mk' Tryz.func32 rfl rfl rfl Tryz.call32
/-- flotsam/look.step -/
theorem i33 : FnI Tryz.prog 33 28 [.tmp 6, .tmp 7] (bd Tryz.f33) := FnI.mk' Tryz.func33 rfl rfl rfl Tryz.call33
/-- flotsam/look.standing -/
theorem i34 : FnI Tryz.prog 34 6 [.tmp 4] (bd Tryz.f34) := FnI.mk' Tryz.func34 rfl rfl rfl Tryz.call34
/-- slices.Sort[[]string,string] -/
theorem i35 : FnI Tryz.prog 35 11 [] (bd Tryz.f35) := FnI.mk' Tryz.func35 rfl rfl rfl Tryz.call35
/-- slices.Compact[[]string,string] -/
theorem i36 : FnI Tryz.prog 36 61 [.tmp 2] (bd Tryz.f36) := FnI.mk' Tryz.func36 rfl rfl rfl Tryz.call36
/-- flotsam/bdisk.New -/
theorem i37 : FnI Tryz.prog 37 14 [.tmp 2, .tmp 3] (bd Tryz.f37) := FnI.mk' Tryz.func37 rfl rfl rfl Tryz.call37
/-- slices.Clone[[]flotsam/api.Sector,flotsam/api.Sector] -/
theorem i38 : FnI Tryz.prog 38 8 [.tmp 2] (bd Tryz.f38) := FnI.mk' Tryz.func38 rfl rfl rfl Tryz.call38
/-- (*flotsam/bdisk.Disk).none -/
theorem i39 : FnI Tryz.prog 39 13 [.tmp 2] (bd Tryz.f39) := FnI.mk' Tryz.func39 rfl rfl rfl Tryz.call39
/-- (*flotsam/bdisk.faults).fails -/
theorem i40 : FnI Tryz.prog 40 22 [.tmp 2] (bd Tryz.f40) := FnI.mk' Tryz.func40 rfl rfl rfl Tryz.call40
/-- (*flotsam/bdisk.Disk).has -/
theorem i41 : FnI Tryz.prog 41 21 [.tmp 4] (bd Tryz.f41) := FnI.mk' Tryz.func41 rfl rfl rfl Tryz.call41
/-- (*flotsam/bdisk.Disk).note -/
theorem i42 : FnI Tryz.prog 42 15 [.tmp 4] (bd Tryz.f42) := FnI.mk' Tryz.func42 rfl rfl rfl Tryz.call42
/-- flotsam/layout.Inode -/
theorem i43 : FnI Tryz.prog 43 32 [.cell 2 44, .tmp 3] (bd Tryz.f43) := FnI.mk' Tryz.func43 rfl rfl rfl Tryz.call43
/-- flotsam/flotsamref07.Inode -/
theorem i44 : FnI Tryz.prog 44 30 [.cell 2 44, .tmp 3] (bd Tryz.f44) := FnI.mk' Tryz.func44 rfl rfl rfl Tryz.call44
/-- flotsam/sector.Zero -/
theorem i45 : FnI Tryz.prog 45 6 [.tmp 2] (bd Tryz.f45) := FnI.mk' Tryz.func45 rfl rfl rfl Tryz.call45
/-- flotsam/sector.Cut -/
theorem i46 : FnI Tryz.prog 46 17 [.tmp 6] (bd Tryz.f46) := FnI.mk' Tryz.func46 rfl rfl rfl Tryz.call46
/-- flotsam/layout.Entry -/
theorem i47 : FnI Tryz.prog 47 29 [.cell 2 44, .tmp 3] (bd Tryz.f47) := FnI.mk' Tryz.func47 rfl rfl rfl Tryz.call47
/-- flotsam/flotsamref07.Entry -/
theorem i48 : FnI Tryz.prog 48 43 [.cell 2 44, .tmp 3] (bd Tryz.f48) := FnI.mk' Tryz.func48 rfl rfl rfl Tryz.call48
/-- flotsam/look.used$1 -/
theorem i49 : FnI Tryz.prog 49 21 [] (bd Tryz.f49) := FnI.mk' Tryz.func49 rfl rfl rfl Tryz.call49
/-- slices.Backward[[]flotsam/api.Write,flotsam/api.Write] -/
theorem i50 : FnI Tryz.prog 50 4 [.tmp 2] (bd Tryz.f50) := FnI.mk' Tryz.func50 rfl rfl rfl Tryz.call50
/-- flotsam/layout.super -/
theorem i51 : FnI Tryz.prog 51 10 [.cell 0 44] (bd Tryz.f51) := FnI.mk' Tryz.func51 rfl rfl rfl Tryz.call51
/-- strings.CutPrefix -/
theorem i52 : FnI Tryz.prog 52 11 [.tmp 4, .tmp 5] (bd Tryz.f52) := FnI.mk' Tryz.func52 rfl rfl rfl Tryz.call52
/-- strings.Split -/
theorem i53 : FnI Tryz.prog 53 8 [.tmp 4] (bd Tryz.f53) := FnI.mk' Tryz.func53 rfl rfl rfl Tryz.call53
/-- slices.ContainsFunc[[]string,string] -/
theorem i54 : FnI Tryz.prog 54 9 [.tmp 4] (bd Tryz.f54) := FnI.mk' Tryz.func54 rfl rfl rfl Tryz.call54
/-- flotsam/path.Split$1 -/
theorem i55 : FnI Tryz.prog 55 6 [.tmp 2] (bd Tryz.f55) := FnI.mk' Tryz.func55 rfl rfl rfl Tryz.call55
/-- flotsam/layout.Name -/
theorem i56 : FnI Tryz.prog 56 23 [.tmp 2] (bd Tryz.f56) := FnI.mk' Tryz.func56 rfl rfl rfl Tryz.call56
/-- flotsam/look.standing$1 -/
theorem i57 : FnI Tryz.prog 57 29 [] (bd Tryz.f57) := FnI.mk' Tryz.func57 rfl rfl rfl Tryz.call57
/-- slices.pdqsortOrdered[string] -/
theorem i58 : FnI Tryz.prog 58 134 [] (bd Tryz.f58) := FnI.mk' Tryz.func58 rfl rfl rfl Tryz.call58
/-- math/bits.Len -/
theorem i59 : FnI Tryz.prog 59 8 [.tmp 2] (bd Tryz.f59) := FnI.mk' Tryz.func59 rfl rfl rfl Tryz.call59
/-- flotsam/layout.RightInode -/
theorem i60 : FnI Tryz.prog 60 50 [.tmp 2] (bd Tryz.f60) := FnI.mk' Tryz.func60 rfl rfl rfl Tryz.call60
/-- flotsam/flotsamref07.RightInode -/
theorem i61 : FnI Tryz.prog 61 68 [.tmp 2] (bd Tryz.f61) := FnI.mk' Tryz.func61 rfl rfl rfl Tryz.call61
/-- flotsam/sector.fits -/
theorem i62 : FnI Tryz.prog 62 21 [.tmp 4] (bd Tryz.f62) := FnI.mk' Tryz.func62 rfl rfl rfl Tryz.call62
/-- bytes.Clone -/
theorem i63 : FnI Tryz.prog 63 8 [.tmp 2] (bd Tryz.f63) := FnI.mk' Tryz.func63 rfl rfl rfl Tryz.call63
/-- flotsam/layout.RightEntry -/
theorem i64 : FnI Tryz.prog 64 25 [.tmp 2] (bd Tryz.f64) := FnI.mk' Tryz.func64 rfl rfl rfl Tryz.call64
/-- flotsam/flotsamref07.RightEntry -/
theorem i65 : FnI Tryz.prog 65 32 [.tmp 2] (bd Tryz.f65) := FnI.mk' Tryz.func65 rfl rfl rfl Tryz.call65
/-- slices.Backward[[]flotsam/api.Write,flotsam/api.Write]$1 -/
theorem i66 : FnI Tryz.prog 66 19 [] (bd Tryz.f66) := FnI.mk' Tryz.func66 rfl rfl rfl Tryz.call66
/-- flotsam/sector.Of -/
theorem i67 : FnI Tryz.prog 67 9 [.cell 2 44, .tmp 3] (bd Tryz.f67) := FnI.mk' Tryz.func67 rfl rfl rfl Tryz.call67
/-- internal/stringslite.CutPrefix -/
theorem i68 : FnI Tryz.prog 68 15 [.tmp 4, .tmp 5] (bd Tryz.f68) := FnI.mk' Tryz.func68 rfl rfl rfl Tryz.call68
/-- strings.genSplit -/
theorem i69 : FnI Tryz.prog 69 66 [.tmp 8] (bd Tryz.f69) := FnI.mk' Tryz.func69 rfl rfl rfl Tryz.call69
/-- slices.IndexFunc[[]string,string] -/
theorem i70 : FnI Tryz.prog 70 19 [.tmp 4] (bd Tryz.f70) := FnI.mk' Tryz.func70 rfl rfl rfl Tryz.call70
/-- strings.Trim -/
theorem i71 : FnI Tryz.prog 71 43 [.tmp 4] (bd Tryz.f71) := FnI.mk' Tryz.func71 rfl rfl rfl Tryz.call71
/-- slices.insertionSortOrdered[string] -/
theorem i72 : FnI Tryz.prog 72 49 [] (bd Tryz.f72) := FnI.mk' Tryz.func72 rfl rfl rfl Tryz.call72
/-- slices.heapSortOrdered[string] -/
theorem i73 : FnI Tryz.prog 73 56 [] (bd Tryz.f73) := FnI.mk' Tryz.func73 rfl rfl rfl Tryz.call73
/-- slices.breakPatternsOrdered[string] -/
theorem i74 : FnI Tryz.prog 74 65 [] (bd Tryz.f74) := FnI.mk' Tryz.func74 rfl rfl rfl Tryz.call74
/-- slices.choosePivotOrdered[string] -/
theorem i75 : FnI Tryz.prog 75 57 [.tmp 6, .tmp 7] (bd Tryz.f75) := FnI.mk' Tryz.func75 rfl rfl rfl Tryz.call75
/-- slices.reverseRangeOrdered[string] -/
theorem i76 : FnI Tryz.prog 76 32 [] (bd Tryz.f76) := FnI.mk' Tryz.func76 rfl rfl rfl Tryz.call76
/-- slices.partialInsertionSortOrdered[string] -/
theorem i77 : FnI Tryz.prog 77 133 [.tmp 6] (bd Tryz.f77) := FnI.mk' Tryz.func77 rfl rfl rfl Tryz.call77
/-- cmp.Less[string] -/
theorem i78 : FnI Tryz.prog 78 17 [.tmp 4] (bd Tryz.f78) := FnI.mk' Tryz.func78 rfl rfl rfl Tryz.call78
/-- slices.partitionEqualOrdered[string] -/
theorem i79 : FnI Tryz.prog 79 84 [.tmp 8] (bd Tryz.f79) := FnI.mk' Tryz.func79 rfl rfl rfl Tryz.call79
/-- slices.partitionOrdered[string] -/
theorem i80 : FnI Tryz.prog 80 168 [.tmp 8, .tmp 9] (bd Tryz.f80) := FnI.mk' Tryz.func80 rfl rfl rfl Tryz.call80
/-- math/bits.Len32 -/
theorem i81 : FnI Tryz.prog 81 19 [.tmp 2] (bd Tryz.f81) := FnI.mk' Tryz.func81 rfl rfl rfl Tryz.call81
/-- math/bits.Len64 -/
theorem i82 : FnI Tryz.prog 82 25 [.tmp 2] (bd Tryz.f82) := FnI.mk' Tryz.func82 rfl rfl rfl Tryz.call82
/-- slices.Clone[[]int,int] -/
theorem i83 : FnI Tryz.prog 83 8 [.tmp 2] (bd Tryz.f83) := FnI.mk' Tryz.func83 rfl rfl rfl Tryz.call83
/-- flotsam/layout.need -/
theorem i84 : FnI Tryz.prog 84 7 [.tmp 2] (bd Tryz.f84) := FnI.mk' Tryz.func84 rfl rfl rfl Tryz.call84
/-- flotsam/layout.RightInode$1 -/
theorem i85 : FnI Tryz.prog 85 9 [.tmp 2] (bd Tryz.f85) := FnI.mk' Tryz.func85 rfl rfl rfl Tryz.call85
/-- slices.ContainsFunc[[]int,int] -/
theorem i86 : FnI Tryz.prog 86 9 [.tmp 4] (bd Tryz.f86) := FnI.mk' Tryz.func86 rfl rfl rfl Tryz.call86
/-- flotsam/layout.RightInode$2 -/
theorem i87 : FnI Tryz.prog 87 5 [.tmp 2] (bd Tryz.f87) := FnI.mk' Tryz.func87 rfl rfl rfl Tryz.call87
/-- slices.Sort[[]int,int] -/
theorem i88 : FnI Tryz.prog 88 11 [] (bd Tryz.f88) := FnI.mk' Tryz.func88 rfl rfl rfl Tryz.call88
/-- slices.Compact[[]int,int] -/
theorem i89 : FnI Tryz.prog 89 61 [.tmp 2] (bd Tryz.f89) := FnI.mk' Tryz.func89 rfl rfl rfl Tryz.call89
/-- flotsam/flotsamref07.Need -/
theorem i90 : FnI Tryz.prog 90 11 [.tmp 2] (bd Tryz.f90) := FnI.mk' Tryz.func90 rfl rfl rfl Tryz.call90
/-- flotsam/layout.RightEntry$1 -/
theorem i91 : FnI Tryz.prog 91 12 [.tmp 4] (bd Tryz.f91) := FnI.mk' Tryz.func91 rfl rfl rfl Tryz.call91
/-- flotsam/flotsamref07.Name -/
theorem i92 : FnI Tryz.prog 92 53 [.tmp 2] (bd Tryz.f92) := FnI.mk' Tryz.func92 rfl rfl rfl Tryz.call92
/-- flotsam/sector.Put -/
theorem i93 : FnI Tryz.prog 93 19 [.cell 6 44, .tmp 7] (bd Tryz.f93) := FnI.mk' Tryz.func93 rfl rfl rfl Tryz.call93
/-- internal/stringslite.HasPrefix -/
theorem i94 : FnI Tryz.prog 94 18 [.tmp 4] (bd Tryz.f94) := FnI.mk' Tryz.func94 rfl rfl rfl Tryz.call94
/-- strings.explode -/
theorem i95 : FnI Tryz.prog 95 50 [.tmp 4] (bd Tryz.f95) := FnI.mk' Tryz.func95 rfl rfl rfl Tryz.call95
/-- strings.Count -/
theorem i96 : FnI Tryz.prog 96 34 [.tmp 4] (bd Tryz.f96) := FnI.mk' Tryz.func96 rfl rfl rfl Tryz.call96
/-- strings.Index -/
theorem i97 : FnI Tryz.prog 97 8 [.tmp 4] (bd Tryz.f97) := FnI.mk' Tryz.func97 rfl rfl rfl Tryz.call97
/-- strings.trimLeftByte -/
theorem i98 : FnI Tryz.prog 98 17 [.tmp 4] (bd Tryz.f98) := FnI.mk' Tryz.func98 rfl rfl rfl Tryz.call98
/-- strings.trimRightByte -/
theorem i99 : FnI Tryz.prog 99 23 [.tmp 4] (bd Tryz.f99) := FnI.mk' Tryz.func99 rfl rfl rfl Tryz.call99
/-- strings.makeASCIISet -/
theorem i100 : FnI Tryz.prog 100 21 [.cell 2 141, .tmp 3] (bd Tryz.f100) := FnI.mk' Tryz.func100 rfl rfl rfl Tryz.call100
/-- strings.trimLeftASCII -/
theorem i101 : FnI Tryz.prog 101 16 [.tmp 4] (bd Tryz.f101) := FnI.mk' Tryz.func101 rfl rfl rfl Tryz.call101
/-- strings.trimRightASCII -/
theorem i102 : FnI Tryz.prog 102 22 [.tmp 4] (bd Tryz.f102) := FnI.mk' Tryz.func102 rfl rfl rfl Tryz.call102
/-- strings.trimLeftUnicode -/
theorem i103 : FnI Tryz.prog 103 23 [.tmp 4] (bd Tryz.f103) := FnI.mk' Tryz.func103 rfl rfl rfl Tryz.call103
/-- strings.trimRightUnicode -/
theorem i104 : FnI Tryz.prog 104 34 [.tmp 4] (bd Tryz.f104) := FnI.mk' Tryz.func104 rfl rfl rfl Tryz.call104
/-- slices.siftDownOrdered[string] -/
theorem i105 : FnI Tryz.prog 105 76 [] (bd Tryz.f105) := FnI.mk' Tryz.func105 rfl rfl rfl Tryz.call105
/-- slices.nextPowerOfTwo -/
theorem i106 : FnI Tryz.prog 106 7 [.tmp 2] (bd Tryz.f106) := FnI.mk' Tryz.func106 rfl rfl rfl Tryz.call106
/-- (*slices.xorshift).Next -/
theorem i107 : FnI Tryz.prog 107 33 [.tmp 2] (bd Tryz.f107) := FnI.mk' Tryz.func107 rfl rfl rfl Tryz.call107
/-- slices.medianAdjacentOrdered[string] -/
theorem i108 : FnI Tryz.prog 108 15 [.tmp 6] (bd Tryz.f108) := FnI.mk' Tryz.func108 rfl rfl rfl Tryz.call108
/-- slices.medianOrdered[string] -/
theorem i109 : FnI Tryz.prog 109 36 [.tmp 10] (bd Tryz.f109) := FnI.mk' Tryz.func109 rfl rfl rfl Tryz.call109
/-- cmp.isNaN[string] -/
theorem i110 : FnI Tryz.prog 110 6 [.tmp 2] (bd Tryz.f110) := FnI.mk' Tryz.func110 rfl rfl rfl Tryz.call110
/-- slices.IndexFunc[[]int,int] -/
theorem i111 : FnI Tryz.prog 111 19 [.tmp 4] (bd Tryz.f111) := FnI.mk' Tryz.func111 rfl rfl rfl Tryz.call111
/-- slices.pdqsortOrdered[int] -/
theorem i112 : FnI Tryz.prog 112 134 [] (bd Tryz.f112) := FnI.mk' Tryz.func112 rfl rfl rfl Tryz.call112
/-- unicode/utf8.RuneCountInString -/
theorem i113 : FnI Tryz.prog 113 10 [.tmp 2] (bd Tryz.f113) := FnI.mk' Tryz.func113 rfl rfl rfl Tryz.call113
/-- unicode/utf8.DecodeRuneInString -/
theorem i114 : FnI Tryz.prog 114 19 [.tmp 2, .tmp 3] (bd Tryz.f114) := FnI.mk' Tryz.func114 rfl rfl rfl Tryz.call114
/-- internal/stringslite.Index -/
theorem i116 : FnI Tryz.prog 116 143 [.tmp 4] (bd Tryz.f116) := FnI.mk' Tryz.func116 rfl rfl rfl Tryz.call116
/-- (*strings.asciiSet).contains -/
theorem i117 : FnI Tryz.prog 117 10 [.tmp 4] (bd Tryz.f117) := FnI.mk' Tryz.func117 rfl rfl rfl Tryz.call117
/-- strings.ContainsRune -/
theorem i118 : FnI Tryz.prog 118 9 [.tmp 4] (bd Tryz.f118) := FnI.mk' Tryz.func118 rfl rfl rfl Tryz.call118
/-- unicode/utf8.DecodeLastRuneInString -/
theorem i119 : FnI Tryz.prog 119 51 [.tmp 2, .tmp 3] (bd Tryz.f119) := FnI.mk' Tryz.func119 rfl rfl rfl Tryz.call119
/-- slices.order2Ordered[string] -/
theorem i120 : FnI Tryz.prog 120 28 [.tmp 8, .tmp 9] (bd Tryz.f120) := FnI.mk' Tryz.func120 rfl rfl rfl Tryz.call120
/-- slices.insertionSortOrdered[int] -/
theorem i121 : FnI Tryz.prog 121 49 [] (bd Tryz.f121) := FnI.mk' Tryz.func121 rfl rfl rfl Tryz.call121
/-- slices.heapSortOrdered[int] -/
theorem i122 : FnI Tryz.prog 122 56 [] (bd Tryz.f122) := FnI.mk' Tryz.func122 rfl rfl rfl Tryz.call122
/-- slices.breakPatternsOrdered[int] -/
theorem i123 : FnI Tryz.prog 123 65 [] (bd Tryz.f123) := FnI.mk' Tryz.func123 rfl rfl rfl Tryz.call123
/-- slices.choosePivotOrdered[int] -/
theorem i124 : FnI Tryz.prog 124 57 [.tmp 6, .tmp 7] (bd Tryz.f124) := FnI.mk' Tryz.func124 rfl rfl rfl Tryz.call124
/-- slices.reverseRangeOrdered[int] -/
theorem i125 : FnI Tryz.prog 125 32 [] (bd Tryz.f125) := FnI.mk' Tryz.func125 rfl rfl rfl Tryz.call125
/-- slices.partialInsertionSortOrdered[int] -/
theorem i126 : FnI Tryz.prog 126 133 [.tmp 6] (bd Tryz.f126) := FnI.mk' Tryz.func126 rfl rfl rfl Tryz.call126
/-- cmp.Less[int] -/
theorem i127 : FnI Tryz.prog 127 17 [.tmp 4] (bd Tryz.f127) := FnI.mk' Tryz.func127 rfl rfl rfl Tryz.call127
/-- slices.partitionEqualOrdered[int] -/
theorem i128 : FnI Tryz.prog 128 84 [.tmp 8] (bd Tryz.f128) := FnI.mk' Tryz.func128 rfl rfl rfl Tryz.call128
/-- slices.partitionOrdered[int] -/
theorem i129 : FnI Tryz.prog 129 168 [.tmp 8, .tmp 9] (bd Tryz.f129) := FnI.mk' Tryz.func129 rfl rfl rfl Tryz.call129
/-- unicode/utf8.decodeRuneInStringSlow -/
theorem i130 : FnI Tryz.prog 130 117 [.tmp 2, .tmp 3] (bd Tryz.f130) := FnI.mk' Tryz.func130 rfl rfl rfl Tryz.call130
/-- internal/stringslite.IndexByte -/
theorem i131 : FnI Tryz.prog 131 8 [.tmp 4] (bd Tryz.f131) := FnI.mk' Tryz.func131 rfl rfl rfl Tryz.call131
/-- internal/bytealg.Cutover -/
theorem i133 : FnI Tryz.prog 133 6 [.tmp 2] (bd Tryz.f133) := FnI.mk' Tryz.func133 rfl rfl rfl Tryz.call133
/-- internal/bytealg.IndexRabinKarp[string] -/
theorem i134 : FnI Tryz.prog 134 81 [.tmp 4] (bd Tryz.f134) := FnI.mk' Tryz.func134 rfl rfl rfl Tryz.call134
/-- strings.IndexRune -/
theorem i135 : FnI Tryz.prog 135 187 [.tmp 4] (bd Tryz.f135) := FnI.mk' Tryz.func135 rfl rfl rfl Tryz.call135
/-- unicode/utf8.RuneStart -/
theorem i136 : FnI Tryz.prog 136 6 [.tmp 2] (bd Tryz.f136) := FnI.mk' Tryz.func136 rfl rfl rfl Tryz.call136
/-- slices.siftDownOrdered[int] -/
theorem i137 : FnI Tryz.prog 137 76 [] (bd Tryz.f137) := FnI.mk' Tryz.func137 rfl rfl rfl Tryz.call137
/-- slices.medianAdjacentOrdered[int] -/
theorem i138 : FnI Tryz.prog 138 15 [.tmp 6] (bd Tryz.f138) := FnI.mk' Tryz.func138 rfl rfl rfl Tryz.call138
/-- slices.medianOrdered[int] -/
theorem i139 : FnI Tryz.prog 139 36 [.tmp 10] (bd Tryz.f139) := FnI.mk' Tryz.func139 rfl rfl rfl Tryz.call139
/-- cmp.isNaN[int] -/
theorem i140 : FnI Tryz.prog 140 6 [.tmp 2] (bd Tryz.f140) := FnI.mk' Tryz.func140 rfl rfl rfl Tryz.call140
/-- internal/bytealg.hashStr[string] -/
theorem i142 : FnI Tryz.prog 142 39 [.tmp 2, .tmp 3] (bd Tryz.f142) := FnI.mk' Tryz.func142 rfl rfl rfl Tryz.call142
/-- strings.IndexByte -/
theorem i143 : FnI Tryz.prog 143 8 [.tmp 4] (bd Tryz.f143) := FnI.mk' Tryz.func143 rfl rfl rfl Tryz.call143
/-- unicode/utf8.ValidRune -/
theorem i144 : FnI Tryz.prog 144 17 [.tmp 2] (bd Tryz.f144) := FnI.mk' Tryz.func144 rfl rfl rfl Tryz.call144
/-- slices.order2Ordered[int] -/
theorem i145 : FnI Tryz.prog 145 28 [.tmp 8, .tmp 9] (bd Tryz.f145) := FnI.mk' Tryz.func145 rfl rfl rfl Tryz.call145
/-- gosem.cut.vars -/
theorem i167 : FnI Tryz.prog 167 6 [] (bd Tryz.f167) := FnI.mk' Tryz.func167 rfl rfl rfl Tryz.call167
end Go.Proofs.YtfpcclakpklghaaGreatDoor

/- Contracts of the library at this program (laid by the shelf tool), those that are used. Conditions: none. -/
namespace Go.Proofs
open Go.Shelf
def Tryz.lays143_ren : Go.Shelf.Ren := ⟨fun | 143 => 97 | 219 => 116 | 217 => 131 | 225 => 132 | 224 => 133 | 267 => 134 | 266 => 141 | 314 => 142 | n => n, fun | 9 => 9 | 3 => 3 | 4 => 4 | 5 => 5 | 46 => 108 | 146 => 175 | 51 => 128 | n => n, fun | 1 => 0 | n => n⟩
theorem Tryz.lays143 : Go.Proofs.Lays.n143 Tryz.prog Tryz.lays143_ren := {
  mixed := by kernel_rfl
  f143 := Tryz.func97.trans (congrArg some (by kernel_rfl))
  f217 := Tryz.func131.trans (congrArg some (by kernel_rfl))
  f219 := Tryz.func116.trans (congrArg some (by kernel_rfl))
  f224 := Tryz.func133.trans (congrArg some (by kernel_rfl))
  f225 := Tryz.func132.trans (congrArg some (by kernel_rfl))
  f266 := Tryz.func141.trans (congrArg some (by kernel_rfl))
  f267 := Tryz.func134.trans (congrArg some (by kernel_rfl))
  f314 := Tryz.func142.trans (congrArg some (by kernel_rfl))
  t3 := Tryz.underlying3
  a3 := Tryz.isAgg3
  z3 := Tryz.sizeOf3
  v3 := Tryz.zeroValue3
  t4 := Tryz.underlying4
  a4 := Tryz.isAgg4
  z4 := Tryz.sizeOf4
  v4 := Tryz.zeroValue4
  t5 := Tryz.underlying5
  a5 := Tryz.isAgg5
  z5 := Tryz.sizeOf5
  v5 := Tryz.zeroValue5
  t9 := Tryz.underlying9
  a9 := Tryz.isAgg9
  z9 := Tryz.sizeOf9
  v9 := Tryz.zeroValue9
  t46 := Tryz.underlying108
  a46 := Tryz.isAgg108
  z46 := Tryz.sizeOf108
  v46 := Tryz.zeroValue108
  t51 := Tryz.underlying128
  a51 := Tryz.isAgg128
  z51 := Tryz.sizeOf128
  v51 := Tryz.zeroValue128
  t146 := Tryz.underlying175
  a146 := Tryz.isAgg175
  z146 := Tryz.sizeOf175
  v146 := Tryz.zeroValue175
  g1 := by kernel_rfl }
open Go.RowKit Go.Lib in
/-- strings.Index: "Index returns the index of the first instance of substr in s, or -1 if substr is not present in s.": AT A substr OF ONE BYTE c: IT RETURNS 'Lib.indexByte s c'; the world is as it was. (LAID: no walk: one application.) -/
theorem Tryz.strings_Index_one (s : ByteArray) (c : UInt8) (w : World) :
    Calls Tryz.prog 97 #[.string s, .string ⟨#[c]⟩] w fun e w' => e = .returned (.int .i64 (Lib.indexByte s.data.toList c)) ∧ w' = w := Any.strings_Index_one Tryz.lays143 s c w
def Tryz.lays138_ren : Go.Shelf.Ren := ⟨fun | 138 => 96 | 195 => 113 | 218 => 115 | 143 => 97 | 219 => 116 | 217 => 131 | 225 => 132 | 224 => 133 | 267 => 134 | 266 => 141 | 314 => 142 | n => n, fun | 9 => 9 | 3 => 3 | 4 => 4 | 5 => 5 | 0 => 0 | 46 => 108 | 146 => 175 | 51 => 128 | n => n, fun | 1 => 0 | n => n⟩
theorem Tryz.lays138 : Go.Proofs.Lays.n138 Tryz.prog Tryz.lays138_ren := {
  mixed := by kernel_rfl
  f138 := Tryz.func96.trans (congrArg some (by kernel_rfl))
  f143 := Tryz.func97.trans (congrArg some (by kernel_rfl))
  f195 := Tryz.func113.trans (congrArg some (by kernel_rfl))
  f217 := Tryz.func131.trans (congrArg some (by kernel_rfl))
  f218 := Tryz.func115.trans (congrArg some (by kernel_rfl))
  f219 := Tryz.func116.trans (congrArg some (by kernel_rfl))
  f224 := Tryz.func133.trans (congrArg some (by kernel_rfl))
  f225 := Tryz.func132.trans (congrArg some (by kernel_rfl))
  f266 := Tryz.func141.trans (congrArg some (by kernel_rfl))
  f267 := Tryz.func134.trans (congrArg some (by kernel_rfl))
  f314 := Tryz.func142.trans (congrArg some (by kernel_rfl))
  t0 := Tryz.underlying0
  a0 := Tryz.isAgg0
  z0 := Tryz.sizeOf0
  v0 := Tryz.zeroValue0
  t3 := Tryz.underlying3
  a3 := Tryz.isAgg3
  z3 := Tryz.sizeOf3
  v3 := Tryz.zeroValue3
  t4 := Tryz.underlying4
  a4 := Tryz.isAgg4
  z4 := Tryz.sizeOf4
  v4 := Tryz.zeroValue4
  t5 := Tryz.underlying5
  a5 := Tryz.isAgg5
  z5 := Tryz.sizeOf5
  v5 := Tryz.zeroValue5
  t9 := Tryz.underlying9
  a9 := Tryz.isAgg9
  z9 := Tryz.sizeOf9
  v9 := Tryz.zeroValue9
  t46 := Tryz.underlying108
  a46 := Tryz.isAgg108
  z46 := Tryz.sizeOf108
  v46 := Tryz.zeroValue108
  t51 := Tryz.underlying128
  a51 := Tryz.isAgg128
  z51 := Tryz.sizeOf128
  v51 := Tryz.zeroValue128
  t146 := Tryz.underlying175
  a146 := Tryz.isAgg175
  z146 := Tryz.sizeOf175
  v146 := Tryz.zeroValue175
  g1 := by kernel_rfl }
open Go.RowKit Go.Lib in
/-- strings.Count AT A substr OF ONE BYTE ('hp'): "Count counts the number of non-overlapping instances of substr in s.": IT RETURNS 'Lib.countByte s (that byte)'; the world is as it was. ✋ NO CONTRACT HERE YET at an empty substr (utf8.RuneCountInString) or at a longer one (a loop over strings.Index). (LAID: no walk: one application.) -/
theorem Tryz.strings_Count_one (s : ByteArray) (c : UInt8) (w : World) :
    Calls Tryz.prog 96 #[.string s, .string ⟨#[c]⟩] w fun e w' => e = .returned (.int .i64 (Lib.countByte s.data.toList c)) ∧ w' = w := Any.strings_Count_one Tryz.lays138 s c w
def Tryz.lays189_ren : Go.Shelf.Ren := ⟨fun | 189 => 88 | 125 => 59 | 257 => 112 | 128 => 81 | 129 => 82 | 294 => 121 | 295 => 122 | 296 => 123 | 297 => 124 | 298 => 125 | 299 => 126 | 216 => 127 | 300 => 128 | 301 => 129 | 328 => 137 | 329 => 106 | 330 => 107 | 331 => 138 | 332 => 139 | 215 => 140 | 343 => 145 | n => n, fun | 28 => 131 | 3 => 3 | 46 => 108 | 0 => 0 | 51 => 128 | 53 => 130 | 4 => 4 | 183 => 121 | 182 => 120 | 131 => 52 | 5 => 5 | 9 => 9 | 218 => 146 | 222 => 150 | 228 => 160 | 229 => 161 | n => n, fun | n => n⟩
theorem Tryz.lays189 : Go.Proofs.Lays.n189 Tryz.prog Tryz.lays189_ren := {
  mixed := by kernel_rfl
  f125 := Tryz.func59.trans (congrArg some (by kernel_rfl))
  f128 := Tryz.func81.trans (congrArg some (by kernel_rfl))
  f129 := Tryz.func82.trans (congrArg some (by kernel_rfl))
  f189 := Tryz.func88.trans (congrArg some (by kernel_rfl))
  f215 := Tryz.func140.trans (congrArg some (by kernel_rfl))
  f216 := Tryz.func127.trans (congrArg some (by kernel_rfl))
  f257 := Tryz.func112.trans (congrArg some (by kernel_rfl))
  f294 := Tryz.func121.trans (congrArg some (by kernel_rfl))
  f295 := Tryz.func122.trans (congrArg some (by kernel_rfl))
  f296 := Tryz.func123.trans (congrArg some (by kernel_rfl))
  f297 := Tryz.func124.trans (congrArg some (by kernel_rfl))
  f298 := Tryz.func125.trans (congrArg some (by kernel_rfl))
  f299 := Tryz.func126.trans (congrArg some (by kernel_rfl))
  f300 := Tryz.func128.trans (congrArg some (by kernel_rfl))
  f301 := Tryz.func129.trans (congrArg some (by kernel_rfl))
  f328 := Tryz.func137.trans (congrArg some (by kernel_rfl))
  f329 := Tryz.func106.trans (congrArg some (by kernel_rfl))
  f330 := Tryz.func107.trans (congrArg some (by kernel_rfl))
  f331 := Tryz.func138.trans (congrArg some (by kernel_rfl))
  f332 := Tryz.func139.trans (congrArg some (by kernel_rfl))
  f343 := Tryz.func145.trans (congrArg some (by kernel_rfl))
  t0 := Tryz.underlying0
  a0 := Tryz.isAgg0
  z0 := Tryz.sizeOf0
  v0 := Tryz.zeroValue0
  t3 := Tryz.underlying3
  a3 := Tryz.isAgg3
  z3 := Tryz.sizeOf3
  v3 := Tryz.zeroValue3
  t4 := Tryz.underlying4
  a4 := Tryz.isAgg4
  z4 := Tryz.sizeOf4
  v4 := Tryz.zeroValue4
  t5 := Tryz.underlying5
  a5 := Tryz.isAgg5
  z5 := Tryz.sizeOf5
  v5 := Tryz.zeroValue5
  t9 := Tryz.underlying9
  a9 := Tryz.isAgg9
  z9 := Tryz.sizeOf9
  v9 := Tryz.zeroValue9
  t28 := Tryz.underlying131
  a28 := Tryz.isAgg131
  z28 := Tryz.sizeOf131
  v28 := Tryz.zeroValue131
  t46 := Tryz.underlying108
  a46 := Tryz.isAgg108
  z46 := Tryz.sizeOf108
  v46 := Tryz.zeroValue108
  t51 := Tryz.underlying128
  a51 := Tryz.isAgg128
  z51 := Tryz.sizeOf128
  v51 := Tryz.zeroValue128
  t53 := Tryz.underlying130
  a53 := Tryz.isAgg130
  z53 := Tryz.sizeOf130
  v53 := Tryz.zeroValue130
  t131 := Tryz.underlying52
  a131 := Tryz.isAgg52
  z131 := Tryz.sizeOf52
  v131 := Tryz.zeroValue52
  t182 := Tryz.underlying120
  a182 := Tryz.isAgg120
  z182 := Tryz.sizeOf120
  v182 := Tryz.zeroValue120
  t183 := Tryz.underlying121
  a183 := Tryz.isAgg121
  z183 := Tryz.sizeOf121
  v183 := Tryz.zeroValue121
  t218 := Tryz.underlying146
  a218 := Tryz.isAgg146
  z218 := Tryz.sizeOf146
  v218 := Tryz.zeroValue146
  t222 := Tryz.underlying150
  a222 := Tryz.isAgg150
  z222 := Tryz.sizeOf150
  v222 := Tryz.zeroValue150
  t228 := Tryz.underlying160
  a228 := Tryz.isAgg160
  z228 := Tryz.sizeOf160
  v228 := Tryz.zeroValue160
  t229 := Tryz.underlying161
  a229 := Tryz.isAgg161
  z229 := Tryz.sizeOf161
  v229 := Tryz.zeroValue161 }
open Go.Sort Go.RowKit in
theorem Tryz.slices_Sort_int (blk off cap : Nat) (zs : List Int) (w : World) (hH : Holds (Value.int .i64) w blk off zs.toArray) (hblk : blk < w.heap.size) (hsz : zs.length < 4611686018427387904) :
    Calls Tryz.prog 88 #[.slice (some ⟨blk, off, none⟩) zs.length cap] w fun e w' =>
      e = .returned (.tuple #[]) ∧ ∃ n os, w' = grow (putRow (Value.int .i64) (Sort.ahead w n) blk off (zs.mergeSort fun x y => decide (x ≤ y)).toArray) os := Any.slices_Sort_int Tryz.lays189 blk off cap zs w hH hblk hsz
def Tryz.lays190_ren : Go.Shelf.Ren := ⟨fun | 190 => 35 | 125 => 59 | 258 => 58 | 128 => 81 | 129 => 82 | 302 => 72 | 303 => 73 | 304 => 74 | 305 => 75 | 306 => 76 | 307 => 77 | 308 => 78 | 309 => 79 | 310 => 80 | 333 => 105 | 329 => 106 | 330 => 107 | 334 => 108 | 335 => 109 | 336 => 110 | 344 => 120 | n => n, fun | 31 => 55 | 9 => 9 | 3 => 3 | 46 => 108 | 0 => 0 | 51 => 128 | 53 => 130 | 4 => 4 | 183 => 121 | 182 => 120 | 131 => 52 | 5 => 5 | 218 => 146 | 222 => 150 | 228 => 160 | 229 => 161 | n => n, fun | n => n⟩
theorem Tryz.lays190 : Go.Proofs.Lays.n190 Tryz.prog Tryz.lays190_ren := {
  mixed := by kernel_rfl
  f125 := Tryz.func59.trans (congrArg some (by kernel_rfl))
  f128 := Tryz.func81.trans (congrArg some (by kernel_rfl))
  f129 := Tryz.func82.trans (congrArg some (by kernel_rfl))
  f190 := Tryz.func35.trans (congrArg some (by kernel_rfl))
  f258 := Tryz.func58.trans (congrArg some (by kernel_rfl))
  f302 := Tryz.func72.trans (congrArg some (by kernel_rfl))
  f303 := Tryz.func73.trans (congrArg some (by kernel_rfl))
  f304 := Tryz.func74.trans (congrArg some (by kernel_rfl))
  f305 := Tryz.func75.trans (congrArg some (by kernel_rfl))
  f306 := Tryz.func76.trans (congrArg some (by kernel_rfl))
  f307 := Tryz.func77.trans (congrArg some (by kernel_rfl))
  f308 := Tryz.func78.trans (congrArg some (by kernel_rfl))
  f309 := Tryz.func79.trans (congrArg some (by kernel_rfl))
  f310 := Tryz.func80.trans (congrArg some (by kernel_rfl))
  f329 := Tryz.func106.trans (congrArg some (by kernel_rfl))
  f330 := Tryz.func107.trans (congrArg some (by kernel_rfl))
  f333 := Tryz.func105.trans (congrArg some (by kernel_rfl))
  f334 := Tryz.func108.trans (congrArg some (by kernel_rfl))
  f335 := Tryz.func109.trans (congrArg some (by kernel_rfl))
  f336 := Tryz.func110.trans (congrArg some (by kernel_rfl))
  f344 := Tryz.func120.trans (congrArg some (by kernel_rfl))
  t0 := Tryz.underlying0
  a0 := Tryz.isAgg0
  z0 := Tryz.sizeOf0
  v0 := Tryz.zeroValue0
  t3 := Tryz.underlying3
  a3 := Tryz.isAgg3
  z3 := Tryz.sizeOf3
  v3 := Tryz.zeroValue3
  t4 := Tryz.underlying4
  a4 := Tryz.isAgg4
  z4 := Tryz.sizeOf4
  v4 := Tryz.zeroValue4
  t5 := Tryz.underlying5
  a5 := Tryz.isAgg5
  z5 := Tryz.sizeOf5
  v5 := Tryz.zeroValue5
  t9 := Tryz.underlying9
  a9 := Tryz.isAgg9
  z9 := Tryz.sizeOf9
  v9 := Tryz.zeroValue9
  t31 := Tryz.underlying55
  a31 := Tryz.isAgg55
  z31 := Tryz.sizeOf55
  v31 := Tryz.zeroValue55
  t46 := Tryz.underlying108
  a46 := Tryz.isAgg108
  z46 := Tryz.sizeOf108
  v46 := Tryz.zeroValue108
  t51 := Tryz.underlying128
  a51 := Tryz.isAgg128
  z51 := Tryz.sizeOf128
  v51 := Tryz.zeroValue128
  t53 := Tryz.underlying130
  a53 := Tryz.isAgg130
  z53 := Tryz.sizeOf130
  v53 := Tryz.zeroValue130
  t131 := Tryz.underlying52
  a131 := Tryz.isAgg52
  z131 := Tryz.sizeOf52
  v131 := Tryz.zeroValue52
  t182 := Tryz.underlying120
  a182 := Tryz.isAgg120
  z182 := Tryz.sizeOf120
  v182 := Tryz.zeroValue120
  t183 := Tryz.underlying121
  a183 := Tryz.isAgg121
  z183 := Tryz.sizeOf121
  v183 := Tryz.zeroValue121
  t218 := Tryz.underlying146
  a218 := Tryz.isAgg146
  z218 := Tryz.sizeOf146
  v218 := Tryz.zeroValue146
  t222 := Tryz.underlying150
  a222 := Tryz.isAgg150
  z222 := Tryz.sizeOf150
  v222 := Tryz.zeroValue150
  t228 := Tryz.underlying160
  a228 := Tryz.isAgg160
  z228 := Tryz.sizeOf160
  v228 := Tryz.zeroValue160
  t229 := Tryz.underlying161
  a229 := Tryz.isAgg161
  z229 := Tryz.sizeOf161
  v229 := Tryz.zeroValue161 }
open Go.Sort Go.RowKit in
theorem Tryz.slices_Sort_string (blk off cap : Nat) (ss : List (List UInt8)) (w : World) (hH : Holds encStr w blk off ss.toArray) (hblk : blk < w.heap.size) (hsz : ss.length < 4611686018427387904) :
    Calls Tryz.prog 35 #[.slice (some ⟨blk, off, none⟩) ss.length cap] w fun e w' =>
      e = .returned (.tuple #[]) ∧ ∃ n os, w' = grow (putRow encStr (Sort.ahead w n) blk off (ss.mergeSort fun x y => decide (x ≤ y)).toArray) os := Any.slices_Sort_string Tryz.lays190 blk off cap ss w hH hblk hsz
def Tryz.laysNm220_ren : Go.Shelf.Ren := ⟨fun | 20 => 89 | n => n, fun | 22 => 131 | 3 => 3 | 4 => 4 | 0 => 0 | n => n, fun | n => n⟩
theorem Tryz.laysNm220 : Go.Proofs.Lays2.n20 Tryz.prog Tryz.laysNm220_ren := {
  mixed := by kernel_rfl
  f20 := Tryz.func89.trans (congrArg some (by kernel_rfl))
  t0 := Tryz.underlying0
  a0 := Tryz.isAgg0
  z0 := Tryz.sizeOf0
  v0 := Tryz.zeroValue0
  t3 := Tryz.underlying3
  a3 := Tryz.isAgg3
  z3 := Tryz.sizeOf3
  v3 := Tryz.zeroValue3
  t4 := Tryz.underlying4
  a4 := Tryz.isAgg4
  z4 := Tryz.sizeOf4
  v4 := Tryz.zeroValue4
  t22 := Tryz.underlying131
  a22 := Tryz.isAgg131
  z22 := Tryz.sizeOf131
  v22 := Tryz.zeroValue131
  i3 := by kernel_rfl }
open Go.RowKit Go.Lib Go.Sort in
/-- slices.Compact at []int: "Compact replaces consecutive runs of equal elements with a single copy. This is like the uniq command found on Unix. Compact modifies the contents of the slice s and returns the modified slice, which may have a smaller length. Compact zeroes the elements between the new length and the original length. The result preserves the nilness of s.": IT RETURNS THE SLICE CUT TO 'Lib.compact zs'; ITS CELLS HOLD 'Lib.compact zs', THEN ZERO VALUES up to the old length; all else is as it was, but for the count of draws. IN THE WORDS OF slices.Sort's CONTRACT ('Holds', 'putRow'): so the everyday 'slices.Sort(xs); xs = slices.Compact(xs)' goes from the one contract to the other. It asks 'zs.length ≤ cap' (every slice's: the reslicing 's[:k]' looks at it). Length 0, nil: '.._empty'. (LAID: no walk: one application.) -/
theorem Tryz.slices_Compact_int (blk off cap : Nat) (zs : List Int) (w : World) (hH : Holds (Value.int .i64) w blk off zs.toArray) (hsz : zs.length ≤ 9223372036854775807) (hcap : zs.length ≤ cap) :
    Calls Tryz.prog 89 #[.slice (some ⟨blk, off, none⟩) zs.length cap] w fun e w' => e = .returned (.slice (some ⟨blk, off, none⟩) (Lib.compact zs).length cap) ∧ ∃ q, w' = putRow (Value.int .i64) (Sort.ahead w q) blk off (Lib.compact zs ++ List.replicate (zs.length - (Lib.compact zs).length) 0).toArray := Any.slices_Compact_int Tryz.laysNm220 blk off cap zs w hH hsz hcap
def Tryz.lays194_ren : Go.Shelf.Ren := ⟨fun | 194 => 36 | n => n, fun | 31 => 55 | 9 => 9 | 3 => 3 | 4 => 4 | 0 => 0 | n => n, fun | n => n⟩
theorem Tryz.lays194 : Go.Proofs.Lays.n194 Tryz.prog Tryz.lays194_ren := {
  mixed := by kernel_rfl
  f194 := Tryz.func36.trans (congrArg some (by kernel_rfl))
  t0 := Tryz.underlying0
  a0 := Tryz.isAgg0
  z0 := Tryz.sizeOf0
  v0 := Tryz.zeroValue0
  t3 := Tryz.underlying3
  a3 := Tryz.isAgg3
  z3 := Tryz.sizeOf3
  v3 := Tryz.zeroValue3
  t4 := Tryz.underlying4
  a4 := Tryz.isAgg4
  z4 := Tryz.sizeOf4
  v4 := Tryz.zeroValue4
  t9 := Tryz.underlying9
  a9 := Tryz.isAgg9
  z9 := Tryz.sizeOf9
  v9 := Tryz.zeroValue9
  t31 := Tryz.underlying55
  a31 := Tryz.isAgg55
  z31 := Tryz.sizeOf55
  v31 := Tryz.zeroValue55 }
open Go.RowKit Go.Lib Go.Sort in
/-- slices.Compact at []string: "Compact replaces consecutive runs of equal elements with a single copy. This is like the uniq command found on Unix. Compact modifies the contents of the slice s and returns the modified slice, which may have a smaller length. Compact zeroes the elements between the new length and the original length. The result preserves the nilness of s.": IT RETURNS THE SLICE CUT TO 'Lib.compact zs'; ITS CELLS HOLD 'Lib.compact zs', THEN ZERO VALUES up to the old length; all else is as it was, but for the count of draws. IN THE WORDS OF slices.Sort's CONTRACT ('Holds', 'putRow'): so the everyday 'slices.Sort(xs); xs = slices.Compact(xs)' goes from the one contract to the other. It asks 'zs.length ≤ cap' (every slice's: the reslicing 's[:k]' looks at it). Length 0, nil: '.._empty'. (LAID: no walk: one application.) -/
theorem Tryz.slices_Compact_string (blk off cap : Nat) (zs : List (List UInt8)) (w : World) (hH : Holds encStr w blk off zs.toArray) (hsz : zs.length ≤ 9223372036854775807) (hcap : zs.length ≤ cap) :
    Calls Tryz.prog 36 #[.slice (some ⟨blk, off, none⟩) zs.length cap] w fun e w' => e = .returned (.slice (some ⟨blk, off, none⟩) (Lib.compact zs).length cap) ∧ ∃ q, w' = putRow encStr (Sort.ahead w q) blk off (Lib.compact zs ++ List.replicate (zs.length - (Lib.compact zs).length) []).toArray := Any.slices_Compact_string Tryz.lays194 blk off cap zs w hH hsz hcap
open Go.RowKit Go.Lib Go.Sort in
/-- The same at a slice of length 0, a nil one too: it comes back as it is. (LAID: no walk: one application.) -/
theorem Tryz.slices_Compact_string_empty (a : Option Addr) (cap : Nat) (w : World) :
    Calls Tryz.prog 36 #[.slice a 0 cap] w fun e w' => e = .returned (.slice a 0 cap) ∧ w' = w := Any.slices_Compact_string_empty Tryz.lays194 a cap w
open Go.RowKit Go.Sort in
/-- .. and plain. (LAID: no walk: one application.) -/
theorem Tryz.slices_Sort_string_none (p : Option Addr) (cap : Nat) (w : World) :
    Calls Tryz.prog 35 #[.slice p 0 cap] w fun e w' => e = .returned (.tuple #[]) ∧ w' = w := Any.slices_Sort_string_none Tryz.lays190 p cap w
end Go.Proofs

namespace Go.Proofs.YtfpcclakpklghaaGreatDoor
open Go.Sy
set_option maxRecDepth 100000
set_option linter.all false
/- Names, paths, their order; nodes, changes. -/
def signB (c : UInt8) : Bool := decide (97 ≤ c.toNat ∧ c.toNat ≤ 122 ∨ 48 ≤ c.toNat ∧ c.toNat ≤ 57 ∨ c.toNat = 46 ∨ c.toNat = 95)
def nameB (s : List UInt8) : Bool := decide (1 ≤ s.length ∧ s.length ≤ 8 ∧ s ≠ [46] ∧ s ≠ [46, 46]) && s.all signB
/-- The words of a text, parted by a byte. -/
def wordsC (c : UInt8) : List UInt8 → List (List UInt8)
  | [] => [[]]
  | b :: t => if b = c then [] :: wordsC c t else match wordsC c t with
    | [] => [[b]]
    | w :: r => (b :: w) :: r
def splitP (p : List UInt8) : List (List UInt8) × Int :=
  if p = [47] then ([], 0) else
  match p with
  | [] => ([], 9)
  | b :: r => if b = 47 then (if (wordsC 47 r).length ≤ 4 ∧ (wordsC 47 r).all nameB = true then (wordsC 47 r, 0) else ([], 9)) else ([], 9)
def joinP (l : List (List UInt8)) : List UInt8 := (l.map (fun w => 47 :: w)).flatten
structure Nod where
  p : List UInt8
  d : Bool
  x : List UInt8
deriving DecidableEq
def encN (n : Nod) : List D := [.st n.p, .bl n.d, .st n.x]
structure Chg where
  k : Int
  a : Nod
  b : Nod
deriving DecidableEq
def encG (c : Chg) : List D := [.it .i64 c.k, .st c.a.p, .bl c.a.d, .st c.a.x, .st c.b.p, .bl c.b.d, .st c.b.x]
def nod0 : Nod := ⟨[], false, []⟩
def key (p : List UInt8) : List (List UInt8) := (splitP p).1
def mayB (n : Nod) : Bool := decide ((splitP n.p).2 = 0 ∧ (splitP n.p).1 ≠ [] ∧ n.x.length ≤ 128 ∧ (n.d = true → n.x = []))
def cmpS (a b : List UInt8) : Int := if Op.bytesLess a b = true then -1 else if Op.bytesLess b a = true then 1 else 0
def cmpN : List (List UInt8) → List (List UInt8) → Int
  | [], [] => 0
  | [], _ :: _ => -1
  | _ :: _, [] => 1
  | x :: a, y :: b => if cmpS x y = 0 then cmpN a b else cmpS x y
def befN : List (List UInt8) → List (List UInt8) → Bool
  | x :: a, y :: b => if x = y then befN a b else Op.bytesLess x y
  | [], _ :: _ => true
  | _, [] => false
theorem less_irr : ∀ a : List UInt8, Op.bytesLess a a = false
  | [] => rfl
  | a :: t => by simp [Op.bytesLess, less_irr t]
theorem less_tri : ∀ a b : List UInt8, Op.bytesLess a b = false → Op.bytesLess b a = false → a = b
  | [], [], _, _ => rfl
  | [], _ :: _, h, _ => by simp [Op.bytesLess] at h
  | _ :: _, [], _, h => by simp [Op.bytesLess] at h
  | a :: s, b :: t, h, k => by
    simp only [Op.bytesLess, Bool.or_eq_false_iff, Bool.and_eq_false_iff, decide_eq_false_iff_not, beq_eq_false_iff_ne] at h k
    obtain ⟨h1, h2⟩ := h
    obtain ⟨k1, k2⟩ := k
    have e : a = b := by
      apply UInt8.toNat_inj.1
      rw [UInt8.lt_iff_toNat_lt] at h1 k1
      omega
    subst e
    rcases h2 with h2 | h2
    · exact absurd rfl h2
    rcases k2 with k2 | k2
    · exact absurd rfl k2
    rw [less_tri s t h2 k2]
theorem less_trans : ∀ a b c : List UInt8, Op.bytesLess a b = true → Op.bytesLess b c = true → Op.bytesLess a c = true
  | _, _, [], _, h => by simp [Op.bytesLess] at h
  | _, [], _ :: _, h, _ => by simp [Op.bytesLess] at h
  | [], _ :: _, _ :: _, _, _ => rfl
  | a :: s, b :: t, c :: u, h, k => by
    simp only [Op.bytesLess, Bool.or_eq_true, Bool.and_eq_true, decide_eq_true_eq, beq_iff_eq, UInt8.lt_iff_toNat_lt] at h k ⊢
    rcases h with h | ⟨rfl, h⟩
    · rcases k with k | ⟨rfl, k⟩
      · exact .inl (by omega)
      · exact .inl h
    · rcases k with k | ⟨rfl, k⟩
      · exact .inl k
      · exact .inr ⟨rfl, less_trans s t u h k⟩
theorem less_asy (a b : List UInt8) (h : Op.bytesLess a b = true) : Op.bytesLess b a = false := by
  cases hb : Op.bytesLess b a with
  | false => rfl
  | true => have := less_trans _ _ _ h hb; rw [less_irr] at this; cases this
theorem cmpS_self (a : List UInt8) : cmpS a a = 0 := by simp [cmpS, less_irr]
theorem cmpS_0 {a b : List UInt8} (h : cmpS a b = 0) : a = b := by
  unfold cmpS at h
  split at h
  · cases h
  · split at h
    · cases h
    · rename_i h1 h2; exact less_tri a b (by simpa using h1) (by simpa using h2)
theorem cmpS_neg {a b : List UInt8} : cmpS a b < 0 ↔ Op.bytesLess a b = true := by
  unfold cmpS
  split
  · simp [*]
  · split <;> simp [*]
theorem cmpS_anti (a b : List UInt8) : cmpS b a = - cmpS a b := by
  unfold cmpS
  cases h1 : Op.bytesLess a b with
  | true => rw [less_asy a b h1]; rfl
  | false => cases Op.bytesLess b a <;> rfl
theorem cmpN_self : ∀ a, cmpN a a = 0
  | [] => rfl
  | x :: a => by rw [cmpN, if_pos (cmpS_self x), cmpN_self a]
theorem cmpN_0 : ∀ {a b}, cmpN a b = 0 → a = b
  | [], [], _ => rfl
  | [], _ :: _, h => by cases h
  | _ :: _, [], h => by cases h
  | x :: a, y :: b, h => by
    rw [cmpN] at h
    split at h
    · rename_i h1; rw [cmpS_0 h1, cmpN_0 h]
    · rename_i h1; exact absurd h h1
theorem cmpN_anti : ∀ a b, cmpN b a = - cmpN a b
  | [], [] => rfl
  | [], _ :: _ => rfl
  | _ :: _, [] => rfl
  | x :: a, y :: b => by
    rw [cmpN, cmpN, cmpS_anti x y, cmpN_anti a b]
    by_cases h : cmpS x y = 0
    · rw [if_pos h, if_pos (by omega)]
    · rw [if_neg h, if_neg (by omega)]
theorem cmpN_trans : ∀ a b c, cmpN a b < 0 → cmpN b c < 0 → cmpN a c < 0
  | [], [], c, h, _ => by simp [cmpN] at h
  | _ :: _, [], c, h, _ => by simp [cmpN] at h
  | _, _ :: _, [], _, h => by simp [cmpN] at h
  | [], _ :: _, _ :: _, _, _ => by simp [cmpN]
  | x :: a, y :: b, z :: c, h, k => by
    rw [cmpN] at h k ⊢
    by_cases h1 : cmpS x y = 0
    · rw [if_pos h1] at h
      obtain rfl := cmpS_0 h1
      by_cases k1 : cmpS x z = 0
      · rw [if_pos k1] at k ⊢
        exact cmpN_trans a b c h k
      · rw [if_neg k1] at k ⊢; exact k
    · rw [if_neg h1] at h
      by_cases k1 : cmpS y z = 0
      · obtain rfl := cmpS_0 k1
        rw [if_neg h1]; exact h
      · rw [if_neg k1] at k
        have := cmpS_neg.2 (less_trans _ _ _ (cmpS_neg.1 h) (cmpS_neg.1 k))
        rw [if_neg (by omega)]; exact this
theorem cmpN_val : ∀ a b, cmpN a b = -1 ∨ cmpN a b = 0 ∨ cmpN a b = 1
  | [], [] => .inr (.inl rfl)
  | [], _ :: _ => .inl rfl
  | _ :: _, [] => .inr (.inr rfl)
  | x :: a, y :: b => by
    rw [cmpN]
    split
    · exact cmpN_val a b
    · unfold cmpS; split
      · exact .inl rfl
      · split
        · exact .inr (.inr rfl)
        · exact .inr (.inl rfl)
theorem befN_eq : ∀ a b, befN a b = decide (cmpN a b < 0)
  | [], [] => rfl
  | [], _ :: _ => rfl
  | _ :: _, [] => rfl
  | x :: a, y :: b => by
    rw [befN, cmpN]
    by_cases h : x = y
    · subst h; rw [if_pos rfl, if_pos (cmpS_self x), befN_eq a b]
    · rw [if_neg h, if_neg (fun h' => h (cmpS_0 h'))]
      cases hl : Op.bytesLess x y with
      | true => exact (decide_eq_true (cmpS_neg.2 hl)).symm
      | false => exact (decide_eq_false (fun h' => by rw [cmpS_neg.1 h'] at hl; cases hl)).symm
theorem wordsC_ne (c : UInt8) (s : List UInt8) : wordsC c s ≠ [] := by
  cases s with
  | nil => simp [wordsC]
  | cons b t =>
    rw [wordsC]
    split
    · simp
    · split <;> simp
theorem joinP_words (s : List UInt8) : joinP (wordsC 47 s) = 47 :: s := by
  induction s with
  | nil => rfl
  | cons b t ih =>
    rw [wordsC]
    split
    · rename_i h; subst h
      show 47 :: ([] ++ joinP (wordsC 47 t)) = _
      rw [ih]; rfl
    · cases ht : wordsC 47 t with
      | nil => exact absurd ht (wordsC_ne 47 t)
      | cons w r =>
        rw [ht] at ih
        have e : joinP (w :: r) = 47 :: (w ++ joinP r) := rfl
        have e' : joinP ((b :: w) :: r) = 47 :: b :: (w ++ joinP r) := rfl
        rw [e] at ih
        simp only [e']
        rw [List.cons.inj ih |>.2]
/-- A path of nodes is that of its names. -/
theorem key_join {p : List UInt8} (h : (splitP p).2 = 0) (h1 : (splitP p).1 ≠ []) : joinP (key p) = p := by
  unfold key splitP at *
  split at h1
  · exact absurd rfl h1
  · rename_i hp
    rw [if_neg hp] at h ⊢
    split at h1
    · exact absurd rfl h1
    · split at h1
      · rename_i hb; subst hb
        split at h1
        · rename_i hc; simp only [if_pos hc, if_true]; exact joinP_words _
        · exact absurd rfl h1
      · exact absurd rfl h1
theorem may_path {n : Nod} (h : mayB n = true) : joinP (key n.p) = n.p := by
  simp only [mayB, decide_eq_true_eq] at h
  exact key_join h.1 h.2.1
/-- Are they the nodes of a tree? -/
def rightL : Option (List UInt8) → List Nod → Bool
  | _, [] => true
  | o, n :: t => mayB n && (match o with | none => true | some q => decide (cmpN (key q) (key n.p) < 0)) && rightL (some n.p) t
def lt (x y : Nod) : Prop := cmpN (key x.p) (key y.p) < 0
def GoodL (l : List Nod) : Prop := (∀ x ∈ l, mayB x = true) ∧ l.Pairwise lt
theorem lt_trans {x y z : Nod} (h : lt x y) (k : lt y z) : lt x z := cmpN_trans _ _ _ h k
theorem lt_irr (x : Nod) : ¬ lt x x := by unfold lt; rw [cmpN_self]; omega
theorem lt_ne {x y : Nod} (h : lt x y) : x.p ≠ y.p := fun e => by unfold lt at h; rw [e, cmpN_self] at h; omega
theorem right_good : ∀ (l : List Nod) (o : Option (List UInt8)), rightL o l = true → GoodL l ∧ ∀ q, o = some q → ∀ x ∈ l, cmpN (key q) (key x.p) < 0
  | [], _, _ => ⟨⟨(fun _ h => by cases h), .nil⟩, fun _ _ _ h => by cases h⟩
  | n :: t, o, h => by
    simp only [rightL, Bool.and_eq_true] at h
    obtain ⟨⟨h1, h2⟩, h3⟩ := h
    obtain ⟨⟨g1, g2⟩, g3⟩ := right_good t _ h3
    refine ⟨⟨fun x hx => ?_, .cons (fun x hx => g3 _ rfl x hx) g2⟩, fun q hq x hx => ?_⟩
    · rcases List.mem_cons.1 hx with rfl | hx
      · exact h1
      · exact g1 x hx
    · subst hq
      simp only [decide_eq_true_eq] at h2
      rcases List.mem_cons.1 hx with rfl | hx
      · exact h2
      · exact cmpN_trans _ _ _ h2 (g3 _ rfl x hx)
theorem good_tail {x : Nod} {l : List Nod} (h : GoodL (x :: l)) : GoodL l := ⟨fun y hy => h.1 y (List.mem_cons_of_mem _ hy), (List.pairwise_cons.1 h.2).2⟩
/-- What becomes of one list of nodes on its way to another one: side by side. -/
def diffD : List Nod → List Nod → List Chg
  | [], [] => []
  | [], y :: b => ⟨2, nod0, y⟩ :: diffD [] b
  | x :: a, [] => ⟨1, x, nod0⟩ :: diffD a []
  | x :: a, y :: b =>
    if cmpN (key x.p) (key y.p) < 0 then ⟨1, x, nod0⟩ :: diffD a (y :: b)
    else if 0 < cmpN (key x.p) (key y.p) then ⟨2, nod0, y⟩ :: diffD (x :: a) b
    else if x = y then diffD a b else ⟨3, x, y⟩ :: diffD a b
termination_by a b => a.length + b.length
def mergeD : List Nod → List Nod → List Nod
  | [], b => b
  | x :: a, [] => x :: a
  | x :: a, y :: b =>
    if cmpN (key x.p) (key y.p) < 0 then x :: mergeD a (y :: b)
    else if 0 < cmpN (key x.p) (key y.p) then y :: mergeD (x :: a) b
    else x :: mergeD a b
termination_by a b => a.length + b.length
def atP (l : List Nod) (p : List UInt8) : Option Nod := l.find? (fun x => x.p == p)
def emit (a b : List Nod) (n : Nod) : List Chg :=
  match atP b n.p with
  | none => match atP a n.p with | some x => [⟨1, x, nod0⟩] | none => []
  | some y => match atP a n.p with
    | none => [⟨2, nod0, y⟩]
    | some x => if x = y then [] else [⟨3, x, y⟩]
theorem atP_in {l : List Nod} (h : GoodL l) {x : Nod} (hx : x ∈ l) : atP l x.p = some x := by
  induction l with
  | nil => cases hx
  | cons y t ih =>
    unfold atP
    rw [List.find?_cons]
    rcases List.mem_cons.1 hx with rfl | hx'
    · simp
    · have := lt_ne ((List.pairwise_cons.1 h.2).1 x hx')
      rw [show (y.p == x.p) = false by simpa using this]
      exact ih (good_tail h) hx'
theorem atP_no {l : List Nod} {p : List UInt8} (h : ∀ x ∈ l, x.p ≠ p) : atP l p = none := by
  unfold atP
  rw [List.find?_eq_none]
  intro x hx
  simpa using h x hx
/-- The merge, node by node, tells the differences. -/
theorem diff_emit (a0 b0 : List Nod) : ∀ (n : Nat) (a b : List Nod), a.length + b.length = n → GoodL a → GoodL b → (∀ x ∈ a, atP a0 x.p = some x) → (∀ y ∈ b, atP b0 y.p = some y) →
    (∀ x ∈ a, (∀ y ∈ b, y.p ≠ x.p) → atP b0 x.p = none) → (∀ y ∈ b, (∀ x ∈ a, x.p ≠ y.p) → atP a0 y.p = none) → (mergeD a b).flatMap (emit a0 b0) = diffD a b := by
  intro n
  induction n using Nat.strongRecOn with
  | ind n ih =>
    intro a b hn ga gb h1 h2 h3 h4
    have sub : ∀ {l : List Nod} {x : Nod}, GoodL (x :: l) → ∀ z ∈ l, lt x z := fun h => (List.pairwise_cons.1 h.2).1
    match a, b with
    | [], [] => simp [mergeD, diffD]
    | [], y :: b =>
      have e1 := ih (0 + b.length) (by simp at hn; omega) [] b rfl ⟨(fun _ h => by cases h), .nil⟩ (good_tail gb) (fun _ h => by cases h) (fun z hz => h2 z (List.mem_cons_of_mem _ hz)) (fun _ h => by cases h) (fun z hz hh => h4 z (List.mem_cons_of_mem _ hz) hh)
      rw [diffD, ← e1]
      simp only [mergeD, List.flatMap_cons]
      rw [emit, h2 y List.mem_cons_self, h4 y List.mem_cons_self (fun _ h => by cases h)]
      rfl
    | x :: a, [] =>
      have e1 := ih (a.length + 0) (by simp at hn; omega) a [] rfl (good_tail ga) ⟨(fun _ h => by cases h), .nil⟩ (fun z hz => h1 z (List.mem_cons_of_mem _ hz)) (fun _ h => by cases h) (fun z hz hh => h3 z (List.mem_cons_of_mem _ hz) hh) (fun _ h => by cases h)
      rw [diffD, ← e1]
      have em : mergeD (x :: a) [] = x :: mergeD a [] := by cases a <;> simp [mergeD]
      rw [em, List.flatMap_cons, emit, h3 x List.mem_cons_self (fun _ h => by cases h), h1 x List.mem_cons_self]
      rfl
    | x :: a, y :: b =>
      simp only [List.length_cons] at hn
      rw [diffD, mergeD]
      by_cases c1 : cmpN (key x.p) (key y.p) < 0
      · rw [if_pos c1, if_pos c1]
        have nb : ∀ z ∈ y :: b, z.p ≠ x.p := fun z hz => by
          rcases List.mem_cons.1 hz with rfl | hz
          · exact (lt_ne (x := x) (y := z) c1).symm
          · exact (lt_ne (lt_trans (x := x) (y := y) c1 (sub gb z hz))).symm
        have e1 := ih (a.length + (y :: b).length) (by simp; omega) a (y :: b) rfl (good_tail ga) gb (fun z hz => h1 z (List.mem_cons_of_mem _ hz)) h2 (fun z hz hh => h3 z (List.mem_cons_of_mem _ hz) hh) (fun z hz hh => h4 z hz (fun w hw => by
          rcases List.mem_cons.1 hw with rfl | hw
          · exact (nb z hz).symm
          · exact hh w hw))
        rw [List.flatMap_cons, e1, emit, h3 x List.mem_cons_self nb, h1 x List.mem_cons_self]
        rfl
      · rw [if_neg c1, if_neg c1]
        by_cases c2 : 0 < cmpN (key x.p) (key y.p)
        · rw [if_pos c2, if_pos c2]
          have c2' : lt y x := by unfold lt; rw [cmpN_anti]; omega
          have nb : ∀ z ∈ x :: a, z.p ≠ y.p := fun z hz => by
            rcases List.mem_cons.1 hz with rfl | hz
            · exact (lt_ne c2').symm
            · exact (lt_ne (lt_trans c2' (sub ga z hz))).symm
          have e1 := ih ((x :: a).length + b.length) (by simp; omega) (x :: a) b rfl ga (good_tail gb) h1 (fun z hz => h2 z (List.mem_cons_of_mem _ hz)) (fun z hz hh => h3 z hz (fun w hw => by
            rcases List.mem_cons.1 hw with rfl | hw
            · exact (nb z hz).symm
            · exact hh w hw)) (fun z hz hh => h4 z (List.mem_cons_of_mem _ hz) hh)
          rw [List.flatMap_cons, e1, emit, h2 y List.mem_cons_self, h4 y List.mem_cons_self nb]
          rfl
        · rw [if_neg c2, if_neg c2]
          have ek : key x.p = key y.p := cmpN_0 (by omega)
          have ep : x.p = y.p := by rw [← may_path (ga.1 x List.mem_cons_self), ← may_path (gb.1 y List.mem_cons_self), ek]
          have e1 := ih (a.length + b.length) (by omega) a b rfl (good_tail ga) (good_tail gb) (fun z hz => h1 z (List.mem_cons_of_mem _ hz)) (fun z hz => h2 z (List.mem_cons_of_mem _ hz)) (fun z hz hh => h3 z (List.mem_cons_of_mem _ hz) (fun w hw => by
            rcases List.mem_cons.1 hw with rfl | hw
            · rw [← ep]; exact lt_ne (sub ga z hz)
            · exact hh w hw)) (fun z hz hh => h4 z (List.mem_cons_of_mem _ hz) (fun w hw => by
            rcases List.mem_cons.1 hw with rfl | hw
            · rw [ep]; exact lt_ne (sub gb z hz)
            · exact hh w hw))
          rw [List.flatMap_cons, e1, emit, h1 x List.mem_cons_self, ep, h2 y List.mem_cons_self]
          simp only
          split <;> rfl
/-- The reference's: all nodes sorted in, one by one. -/
def insD (n : Nod) : List Nod → List Nod
  | [] => [n]
  | x :: l => if cmpN (key x.p) (key n.p) < 0 then x :: insD n l else n :: x :: l
def sortD (l : List Nod) : List Nod := l.foldl (fun o n => insD n o) []
theorem ins_mem {n z : Nod} : ∀ {l : List Nod}, z ∈ insD n l ↔ z = n ∨ z ∈ l
  | [] => by simp [insD]
  | x :: l => by
    rw [insD]
    split
    · simp only [List.mem_cons, ins_mem (l := l)]
      constructor
      · rintro (h | h | h)
        · exact .inr (.inl h)
        · exact .inl h
        · exact .inr (.inr h)
      · rintro (h | h | h)
        · exact .inr (.inl h)
        · exact .inl h
        · exact .inr (.inr h)
    · simp
theorem ins_sorted {n : Nod} : ∀ {l : List Nod}, l.Pairwise lt → (∀ x ∈ l, cmpN (key x.p) (key n.p) ≠ 0) → (insD n l).Pairwise lt
  | [], _, _ => by simp [insD]
  | x :: l, h, hn => by
    rw [insD]
    obtain ⟨k1, k2⟩ := List.pairwise_cons.1 h
    split
    · rename_i c
      refine .cons (fun z hz => ?_) (ins_sorted k2 fun z hz => hn z (List.mem_cons_of_mem _ hz))
      rcases ins_mem.1 hz with rfl | hz
      · exact c
      · exact k1 z hz
    · rename_i c
      have c' : lt n x := by
        have := hn x List.mem_cons_self
        unfold lt; rw [cmpN_anti]; omega
      refine .cons (fun z hz => ?_) h
      rcases List.mem_cons.1 hz with rfl | hz
      · exact c'
      · exact lt_trans c' (k1 z hz)
theorem sort_aux : ∀ (l o : List Nod), o.Pairwise lt → l.Pairwise (fun x y => cmpN (key x.p) (key y.p) ≠ 0) → (∀ x ∈ o, ∀ y ∈ l, cmpN (key x.p) (key y.p) ≠ 0) →
    (l.foldl (fun o n => insD n o) o).Pairwise lt ∧ ∀ z, z ∈ l.foldl (fun o n => insD n o) o ↔ z ∈ o ∨ z ∈ l
  | [], o, h, _, _ => ⟨h, fun z => by simp⟩
  | n :: l, o, h, hl, ho => by
    obtain ⟨k1, k2⟩ := List.pairwise_cons.1 hl
    rw [List.foldl_cons]
    obtain ⟨r1, r2⟩ := sort_aux l (insD n o) (ins_sorted h fun x hx => ho x hx n List.mem_cons_self) k2 (fun x hx y hy => by
      rcases ins_mem.1 hx with rfl | hx
      · exact k1 y hy
      · exact ho x hx y (List.mem_cons_of_mem _ hy))
    refine ⟨r1, fun z => ?_⟩
    rw [r2, ins_mem, List.mem_cons]
    constructor
    · rintro ((h | h) | h)
      · exact .inr (.inl h)
      · exact .inl h
      · exact .inr (.inr h)
    · rintro (h | h | h)
      · exact .inl (.inr h)
      · exact .inl (.inl h)
      · exact .inr h
theorem sorted_eq : ∀ {l m : List Nod}, l.Pairwise lt → m.Pairwise lt → (∀ z, z ∈ l ↔ z ∈ m) → l = m
  | [], [], _, _, _ => rfl
  | [], y :: m, _, _, h => by have := (h y).2 List.mem_cons_self; cases this
  | x :: l, [], _, _, h => by have := (h x).1 List.mem_cons_self; cases this
  | x :: l, y :: m, hl, hm, h => by
    obtain ⟨a1, a2⟩ := List.pairwise_cons.1 hl
    obtain ⟨b1, b2⟩ := List.pairwise_cons.1 hm
    have e : x = y := by
      rcases List.mem_cons.1 ((h x).1 List.mem_cons_self) with h1 | h1
      · exact h1
      · rcases List.mem_cons.1 ((h y).2 List.mem_cons_self) with h2 | h2
        · exact h2.symm
        · exact absurd (lt_trans (a1 y h2) (b1 x h1)) (lt_irr x)
    subst e
    rw [sorted_eq a2 b2 fun z => ?_]
    constructor
    · intro hz
      rcases List.mem_cons.1 ((h z).1 (List.mem_cons_of_mem _ hz)) with rfl | h1
      · exact absurd (a1 z hz) (lt_irr z)
      · exact h1
    · intro hz
      rcases List.mem_cons.1 ((h z).2 (List.mem_cons_of_mem _ hz)) with rfl | h1
      · exact absurd (b1 z hz) (lt_irr z)
      · exact h1
theorem merge_ok : ∀ (n : Nat) (a b : List Nod), a.length + b.length = n → GoodL a → GoodL b → (mergeD a b).Pairwise lt ∧ ∀ z, z ∈ mergeD a b ↔ z ∈ a ∨ (z ∈ b ∧ ∀ x ∈ a, x.p ≠ z.p) := by
  intro n
  induction n using Nat.strongRecOn with
  | ind n ih =>
    intro a b hn ga gb
    have sub : ∀ {l : List Nod} {x : Nod}, GoodL (x :: l) → ∀ z ∈ l, lt x z := fun h => (List.pairwise_cons.1 h.2).1
    match a, b with
    | [], b => simp only [mergeD]; exact ⟨gb.2, fun z => by simp⟩
    | x :: a, [] => simp only [mergeD]; exact ⟨ga.2, fun z => by simp⟩
    | x :: a, y :: b =>
      simp only [List.length_cons] at hn
      rw [mergeD]
      by_cases c1 : cmpN (key x.p) (key y.p) < 0
      · rw [if_pos c1]
        obtain ⟨r1, r2⟩ := ih (a.length + (y :: b).length) (by simp; omega) a (y :: b) rfl (good_tail ga) gb
        have nb : ∀ z ∈ y :: b, lt x z := fun z hz => by
          rcases List.mem_cons.1 hz with rfl | hz
          · exact c1
          · exact lt_trans (x := x) (y := y) c1 (sub gb z hz)
        refine ⟨.cons (fun z hz => ?_) r1, fun z => ?_⟩
        · rcases (r2 z).1 hz with h | h
          · exact sub ga z h
          · exact nb z h.1
        · rw [List.mem_cons, r2]
          constructor
          · rintro (rfl | h | ⟨h, k⟩)
            · exact .inl List.mem_cons_self
            · exact .inl (List.mem_cons_of_mem _ h)
            · refine .inr ⟨h, fun w hw => ?_⟩
              rcases List.mem_cons.1 hw with rfl | hw
              · exact lt_ne (nb z h)
              · exact k w hw
          · rintro (h | ⟨h, k⟩)
            · rcases List.mem_cons.1 h with rfl | h
              · exact .inl rfl
              · exact .inr (.inl h)
            · exact .inr (.inr ⟨h, fun w hw => k w (List.mem_cons_of_mem _ hw)⟩)
      · rw [if_neg c1]
        by_cases c2 : 0 < cmpN (key x.p) (key y.p)
        · rw [if_pos c2]
          have c2' : lt y x := by unfold lt; rw [cmpN_anti]; omega
          obtain ⟨r1, r2⟩ := ih ((x :: a).length + b.length) (by simp; omega) (x :: a) b rfl ga (good_tail gb)
          have nb : ∀ z ∈ x :: a, lt y z := fun z hz => by
            rcases List.mem_cons.1 hz with rfl | hz
            · exact c2'
            · exact lt_trans c2' (sub ga z hz)
          refine ⟨.cons (fun z hz => ?_) r1, fun z => ?_⟩
          · rcases (r2 z).1 hz with h | h
            · exact nb z h
            · exact sub gb z h.1
          · rw [List.mem_cons, r2]
            constructor
            · rintro (rfl | h | ⟨h, k⟩)
              · exact .inr ⟨List.mem_cons_self, fun w hw => (lt_ne (nb w hw)).symm⟩
              · exact .inl h
              · exact .inr ⟨List.mem_cons_of_mem _ h, k⟩
            · rintro (h | ⟨h, k⟩)
              · exact .inr (.inl h)
              · rcases List.mem_cons.1 h with rfl | h
                · exact .inl rfl
                · exact .inr (.inr ⟨h, k⟩)
        · rw [if_neg c2]
          have ek : key x.p = key y.p := cmpN_0 (by omega)
          have ep : x.p = y.p := by rw [← may_path (ga.1 x List.mem_cons_self), ← may_path (gb.1 y List.mem_cons_self), ek]
          obtain ⟨r1, r2⟩ := ih (a.length + b.length) (by omega) a b rfl (good_tail ga) (good_tail gb)
          refine ⟨.cons (fun z hz => ?_) r1, fun z => ?_⟩
          · rcases (r2 z).1 hz with h | h
            · exact sub ga z h
            · have := sub gb z h.1
              unfold lt at this ⊢; rw [ek]; exact this
          · rw [List.mem_cons, r2]
            constructor
            · rintro (rfl | h | ⟨h, k⟩)
              · exact .inl List.mem_cons_self
              · exact .inl (List.mem_cons_of_mem _ h)
              · refine .inr ⟨List.mem_cons_of_mem _ h, fun w hw => ?_⟩
                rcases List.mem_cons.1 hw with rfl | hw
                · rw [ep]; exact lt_ne (sub gb z h)
                · exact k w hw
            · rintro (h | ⟨h, k⟩)
              · rcases List.mem_cons.1 h with rfl | h
                · exact .inl rfl
                · exact .inr (.inl h)
              · rcases List.mem_cons.1 h with rfl | h
                · exact absurd ep (k x List.mem_cons_self)
                · exact .inr (.inr ⟨h, fun w hw => k w (List.mem_cons_of_mem _ hw)⟩)
def allD (a b : List Nod) : List Nod := a ++ b.filter (fun y => (atP a y.p).isNone)
theorem atP_none {l : List Nod} {p : List UInt8} : (atP l p).isNone = true ↔ ∀ x ∈ l, x.p ≠ p := by
  unfold atP
  rw [Option.isNone_iff_eq_none, List.find?_eq_none]
  constructor
  · intro h x hx; simpa using h x hx
  · intro h x hx; simpa using h x hx
/-- **The two ways to tell differences tell the same.** -/
theorem diff_eq {a b : List Nod} (ga : GoodL a) (gb : GoodL b) : (sortD (allD a b)).flatMap (emit a b) = diffD a b := by
  obtain ⟨m1, m2⟩ := merge_ok _ a b rfl ga gb
  have kne : ∀ {x y : Nod}, mayB x = true → mayB y = true → x.p ≠ y.p → cmpN (key x.p) (key y.p) ≠ 0 := fun hx hy h e => h (by rw [← may_path hx, ← may_path hy, cmpN_0 e])
  have hp : (allD a b).Pairwise (fun x y => cmpN (key x.p) (key y.p) ≠ 0) := by
    unfold allD
    rw [List.pairwise_append]
    refine ⟨ga.2.imp fun h => by unfold lt at h; omega, (gb.2.imp fun {x y} h => by unfold lt at h; omega).sublist List.filter_sublist, fun x hx y hy => ?_⟩
    obtain ⟨y1, y2⟩ := List.mem_filter.1 hy
    exact kne (ga.1 x hx) (gb.1 y y1) (atP_none.1 y2 x hx)
  obtain ⟨s1, s2⟩ := sort_aux (allD a b) [] .nil hp (fun _ h => by cases h)
  have e : sortD (allD a b) = mergeD a b := sorted_eq s1 m1 fun z => by
    refine (s2 z).trans ?_
    rw [m2]
    unfold allD
    rw [List.mem_append, List.mem_filter]
    constructor
    · rintro (h | h | ⟨h, k⟩)
      · cases h
      · exact .inl h
      · exact .inr ⟨h, atP_none.1 k⟩
    · rintro (h | ⟨h, k⟩)
      · exact .inr (.inl h)
      · exact .inr (.inr ⟨h, atP_none.2 k⟩)
  rw [e]
  exact diff_emit a b _ a b rfl ga gb (fun x hx => atP_in ga hx) (fun y hy => atP_in gb hy) (fun x _ h => atP_no h) (fun y _ h => atP_no h)
end Go.Proofs.YtfpcclakpklghaaGreatDoor

namespace Go.Proofs.YtfpcclakpklghaaGreatDoor
open Go.Sy
set_option maxRecDepth 100000
set_option linter.all false
theorem mixed : Tryz.prog.follows .mixedOrders = true := by kernel_rfl
theorem signB_t {c : UInt8} (h : 97 ≤ c.toNat ∧ c.toNat ≤ 122 ∨ 48 ≤ c.toNat ∧ c.toNat ≤ 57 ∨ c.toNat = 46 ∨ c.toNat = 95) : signB c = true := decide_eq_true h
theorem signB_f {c : UInt8} (h : ¬ (97 ≤ c.toNat ∧ c.toNat ≤ 122 ∨ 48 ≤ c.toNat ∧ c.toNat ≤ 57 ∨ c.toNat = 46 ∨ c.toNat = 95)) : signB c = false := decide_eq_false h
theorem all_snocB {f : UInt8 → Bool} {l : List UInt8} {k : Nat} {c : UInt8} (h : l[k]? = some c) : (l.take (k + 1)).all f = ((l.take k).all f && f c) := by
  rw [take_snoc h, List.all_append]; simp
theorem not_allB {f : UInt8 → Bool} {l : List UInt8} {k : Nat} {c : UInt8} (h : l[k]? = some c) (hc : f c = false) : l.all f = false := by
  rw [List.all_eq_false]
  exact ⟨c, List.mem_of_getElem? h, by simp [hc]⟩
theorem nameB_no {s : List UInt8} (h : ¬ (1 ≤ s.length ∧ s.length ≤ 8 ∧ s ≠ [46] ∧ s ≠ [46, 46])) : nameB s = false := by rw [nameB, decide_eq_false h]; rfl
theorem nameB_all {s : List UInt8} (h : s.all signB = false) : nameB s = false := by rw [nameB, h, Bool.and_false]
theorem nameB_yes {s : List UInt8} (h1 : 1 ≤ s.length) (h2 : s.length ≤ 8) (h3 : ¬ s = [46]) (h4 : ¬ s = [46, 46]) : nameB s = s.all signB := by rw [nameB, decide_eq_true ⟨h1, h2, h3, h4⟩]; rfl
theorem refName_ok (s : List UInt8) : FnC Tryz.prog 92 [.d (.st s)] (.d (.bl (nameB s))) := by
  refine FnC.intro ti_ok Tryz.func92 rfl Tryz.ntmps92 Tryz.call92 rfl (Nat.le_of_ble_eq_true rfl) rfl ?_
  (repeat' ((conv => whnf); first | (with_reducible first | refine Spl.tt ?_ | refine Spl.ff ?_) | (with_reducible first | refine draw_auto ti_ok mixed (by decide +kernel) ?_ | refine g_i64 ?_ | refine g_u64 ?_ | refine g_u8 ?_ | refine g_iq ?_ | refine g_uq ?_ | refine g_rem ?_ | refine LetN.mk ?_ | refine g_hm ?_ | refine g_hb ?_ | refine g_lit ?_ | refine g_nm8 (fun x hx hu => ?_) | refine g_n8 (fun x hx hu => ?_) | refine g_b8 (fun x hx hu => ?_) | refine g_nm (fun x hx => ?_) | refine g_im (fun x hx => ?_) | refine g_n (fun x hx => ?_) | refine g_b (fun x hx => ?_) | refine g_and ?_ | refine g_c ?_ | refine Both.mk ?_ ?_ | refine NilS.ts ?_ | refine LetE.now ?_ | refine AtD.now ?_ | refine LetC.now ?_ | refine g_some ?_ | refine g_yk ?_ | refine g_nk ?_ | refine g_y ?_ | refine g_f ?_ | refine AtA.mk' ?_ | refine Spl.pd (fun h => ?_) (fun h => ?_) | refine Spl.peq (fun h => ?_) (fun h => ?_) | refine Spl.pne (fun h => ?_) (fun h => ?_) | refine Spl.seq (fun h => ?_) (fun h => ?_) | refine Spl.sne (fun h => ?_) (fun h => ?_) | refine Spl.nt ?_ | refine Spl.mk (fun h => ?_) (fun h => ?_))))
  all_goals first
  | exact bl_eq (nameB_no (by omega)).symm
  | exact bl_eq (nameB_no (fun hh => hh.2.2.1 (by assumption))).symm
  | exact bl_eq (nameB_no (fun hh => hh.2.2.2 (by assumption))).symm
  | skip
  rename_i h1 h2 h3
  rw [nameB_yes (by omega) (by omega) h3 h]
  refine loop_rule ti_ok (fun k : Nat => k ≤ s.length ∧ (s.take k).all signB = true) (fun k => ⟨[(0, .d (.st s)), (3, .d (.it .i64 k))], [], 0⟩) (fun k => s.length - k) 0 ⟨Nat.zero_le _, rfl⟩ ⟨⟨rfl, rfl, trivial⟩, trivial, rfl⟩ ?_
  intro k ⟨hk, ha⟩
  (repeat' ((conv => whnf); first | (with_reducible first | refine Spl.tt ?_ | refine Spl.ff ?_) | (with_reducible first | refine draw_auto ti_ok mixed (by decide +kernel) ?_ | refine g_i64 ?_ | refine g_u64 ?_ | refine g_u8 ?_ | refine g_iq ?_ | refine g_uq ?_ | refine g_rem ?_ | refine LetN.mk ?_ | refine g_hm ?_ | refine g_hb ?_ | refine g_lit ?_ | refine g_nm8 (fun x hx hu => ?_) | refine g_n8 (fun x hx hu => ?_) | refine g_b8 (fun x hx hu => ?_) | refine g_nm (fun x hx => ?_) | refine g_im (fun x hx => ?_) | refine g_n (fun x hx => ?_) | refine g_b (fun x hx => ?_) | refine g_and ?_ | refine g_c ?_ | refine Both.mk ?_ ?_ | refine NilS.ts ?_ | refine LetE.now ?_ | refine AtD.now ?_ | refine LetC.now ?_ | refine g_some ?_ | refine g_yk ?_ | refine g_nk ?_ | refine g_y ?_ | refine g_f ?_ | refine AtA.mk' ?_ | refine Spl.pd (fun h => ?_) (fun h => ?_) | refine Spl.peq (fun h => ?_) (fun h => ?_) | refine Spl.pne (fun h => ?_) (fun h => ?_) | refine Spl.seq (fun h => ?_) (fun h => ?_) | refine Spl.sne (fun h => ?_) (fun h => ?_) | refine Spl.nt ?_ | refine Spl.mk (fun h => ?_) (fun h => ?_))))
  all_goals first
  | exact bl_eq (not_allB hx (signB_f (by omega))).symm
  | (refine again (k + 1) ⟨by omega, by rw [all_snocB hx, ha, signB_t (by omega)]; rfl⟩ (by dsimp only; omega) (And.intro rfl (And.intro rfl trivial)) trivial rfl)
  | (obtain rfl : k = s.length := by omega
     rw [List.take_length] at ha
     exact bl_eq ha.symm)
def plainB (c : UInt8) : Bool := decide (32 ≤ c.toNat ∧ c.toNat ≤ 126 ∧ c.toNat ≠ 34 ∧ c.toNat ≠ 92)
def signs : List UInt8 := [97, 98, 99, 100, 101, 102, 103, 104, 105, 106, 107, 108, 109, 110, 111, 112, 113, 114, 115, 116, 117, 118, 119, 120, 121, 122, 48, 49, 50, 51, 52, 53, 54, 55, 56, 57, 46, 95]
def tabS (l : List UInt8) : List D := (List.range 256).map fun j => .bl (l.any fun c => c.toNat == j)
theorem all_d (l : List D) (m : Nat) : (l.map AV.d).all (AV.lt1 m) = true := by
  rw [List.all_eq_true]
  intro x hx
  obtain ⟨b, _, rfl⟩ := List.mem_map.1 hx
  rfl
theorem tabS_upd {l : List UInt8} {c : UInt8} : ((tabS l).map AV.d).take c.toNat ++ [AV.d (.bl true)] ++ ((tabS l).map AV.d).drop (c.toNat + 1) = (tabS (l ++ [c])).map AV.d := by
  have hc := c.toNat_lt
  apply List.ext_getElem
  · simp [tabS]; omega
  · intro i h1 h2
    simp only [tabS, List.length_map, List.length_range] at h2
    rcases Nat.lt_trichotomy i c.toNat with h | h | h
    · rw [List.getElem_append_left (by simp [tabS]; omega), List.getElem_append_left (by simp [tabS]; omega)]
      simp [tabS, show ¬ c.toNat = i by omega]
    · subst h
      rw [List.getElem_append_left (by simp [tabS]; omega), List.getElem_append_right (by simp [tabS]; omega)]
      simp [tabS]
    · rw [List.getElem_append_right (by simp [tabS]; omega)]
      simp [tabS, show ¬ c.toNat = i by omega, show c.toNat + 1 + (i - (min c.toNat 256 + 1)) = i by omega]
theorem makeSet_ok : FnC Tryz.prog 100 [.d (.st signs)] (.tup [.dg 256 (tabS signs), .d (.bl true)]) := by
  refine FnC.intro ti_ok Tryz.func100 rfl Tryz.ntmps100 Tryz.call100 rfl (Nat.le_of_ble_eq_true rfl) rfl ?_
  (repeat' ((conv => whnf); first | (with_reducible first | refine Spl.tt ?_ | refine Spl.ff ?_) | (with_reducible first | refine draw_auto ti_ok mixed (by decide +kernel) ?_ | refine g_i64 ?_ | refine g_u64 ?_ | refine g_u8 ?_ | refine g_iq ?_ | refine g_uq ?_ | refine g_rem ?_ | refine LetN.mk ?_ | refine g_hm ?_ | refine g_hb ?_ | refine g_lit ?_ | refine g_nm8 (fun x hx hu => ?_) | refine g_n8 (fun x hx hu => ?_) | refine g_b8 (fun x hx hu => ?_) | refine g_nm (fun x hx => ?_) | refine g_im (fun x hx => ?_) | refine g_n (fun x hx => ?_) | refine g_b (fun x hx => ?_) | refine g_and ?_ | refine g_c ?_ | refine Both.mk ?_ ?_ | refine NilS.ts ?_ | refine LetE.now ?_ | refine AtD.now ?_ | refine LetC.now ?_ | refine g_some ?_ | refine g_yk ?_ | refine g_nk ?_ | refine g_y ?_ | refine g_f ?_ | refine AtA.mk' ?_ | refine Spl.pd (fun h => ?_) (fun h => ?_) | refine Spl.peq (fun h => ?_) (fun h => ?_) | refine Spl.pne (fun h => ?_) (fun h => ?_) | refine Spl.seq (fun h => ?_) (fun h => ?_) | refine Spl.sne (fun h => ?_) (fun h => ?_) | refine Spl.nt ?_ | refine Spl.mk (fun h => ?_) (fun h => ?_))))
  refine loop_rule ti_ok (fun k : Nat => k ≤ signs.length) (fun k => ⟨[(0, .d (.st signs)), (2, .ptr 0 0), (4, .d (.it .i64 k))], [(0, .cells 256 ((tabS (signs.take k)).map .d))], 1⟩) (fun k => signs.length - k) 0 (Nat.zero_le _) ⟨⟨rfl, rfl, rfl, trivial⟩, ⟨?_, trivial⟩, ?_⟩ ?_
  · refine cells_eq rfl (by kernel_rfl)
  · simp only [S.ok, List.all_cons, List.all_nil, Ob.lt, all_d]; rfl
  have hlow : ∀ c ∈ signs, c.toNat < 128 := by decide
  have hl38 : signs.length = 38 := rfl
  intro k hk
  (repeat' ((conv => whnf); first | (with_reducible first | refine Spl.tt ?_ | refine Spl.ff ?_) | (with_reducible first | refine draw_auto ti_ok mixed (by decide +kernel) ?_ | refine g_i64 ?_ | refine g_u64 ?_ | refine g_u8 ?_ | refine g_iq ?_ | refine g_uq ?_ | refine g_rem ?_ | refine LetN.mk ?_ | refine g_hm ?_ | refine g_hb ?_ | refine g_lit ?_ | refine g_nm8 (fun x hx hu => ?_) | refine g_n8 (fun x hx hu => ?_) | refine g_b8 (fun x hx hu => ?_) | refine g_nm (fun x hx => ?_) | refine g_im (fun x hx => ?_) | refine g_n (fun x hx => ?_) | refine g_b (fun x hx => ?_) | refine g_and ?_ | refine g_c ?_ | refine Both.mk ?_ ?_ | refine NilS.ts ?_ | refine LetE.now ?_ | refine AtD.now ?_ | refine LetC.now ?_ | refine g_some ?_ | refine g_yk ?_ | refine g_nk ?_ | refine g_y ?_ | refine g_f ?_ | refine AtA.mk' ?_ | refine Spl.pd (fun h => ?_) (fun h => ?_) | refine Spl.peq (fun h => ?_) (fun h => ?_) | refine Spl.pne (fun h => ?_) (fun h => ?_) | refine Spl.seq (fun h => ?_) (fun h => ?_) | refine Spl.sne (fun h => ?_) (fun h => ?_) | refine Spl.nt ?_ | refine Spl.mk (fun h => ?_) (fun h => ?_))))
  · have := hlow x (List.mem_of_getElem? hx); omega
  · refine again (k + 1) (by omega) (by dsimp only; omega) (And.intro rfl (And.intro rfl (And.intro rfl trivial))) (And.intro (cells_eq rfl ?_) trivial) ?_
    · rw [take_snoc hx, ← tabS_upd]
      simp only [Nat.zero_add, Int.toNat_natCast, Nat.mul_one]; rfl
    · simp only [S.ok, List.all_cons, List.all_nil, Ob.lt, all_d]; rfl
  · obtain rfl : k = signs.length := by omega
    (repeat' ((conv => whnf); first | (with_reducible first | refine Spl.tt ?_ | refine Spl.ff ?_) | with_reducible refine AtA.mk' ?_ | (with_reducible first | refine draw_auto ti_ok mixed (by decide +kernel) ?_ | refine g_i64 ?_ | refine g_u64 ?_ | refine g_u8 ?_ | refine g_iq ?_ | refine g_uq ?_ | refine g_rem ?_ | refine LetN.mk ?_ | refine g_hm ?_ | refine g_hb ?_ | refine g_lit ?_ | refine g_nm8 (fun x hx hu => ?_) | refine g_n8 (fun x hx hu => ?_) | refine g_b8 (fun x hx hu => ?_) | refine g_nm (fun x hx => ?_) | refine g_im (fun x hx => ?_) | refine g_n (fun x hx => ?_) | refine g_b (fun x hx => ?_) | refine g_and ?_ | refine g_c ?_ | refine Both.mk ?_ ?_ | refine NilS.ts ?_ | refine LetE.now ?_ | refine AtD.now ?_ | refine LetC.now ?_ | refine g_some ?_ | refine g_yk ?_ | refine g_nk ?_ | refine g_y ?_ | refine g_f ?_ | refine AtA.mk' ?_ | refine Spl.pd (fun h => ?_) (fun h => ?_) | refine Spl.peq (fun h => ?_) (fun h => ?_) | refine Spl.pne (fun h => ?_) (fun h => ?_) | refine Spl.seq (fun h => ?_) (fun h => ?_) | refine Spl.sne (fun h => ?_) (fun h => ?_) | refine Spl.nt ?_ | refine Spl.mk (fun h => ?_) (fun h => ?_))))
    rfl
end Go.Proofs.YtfpcclakpklghaaGreatDoor

namespace Go.Proofs.YtfpcclakpklghaaGreatDoor
open Go.Sy
set_option maxRecDepth 100000
set_option linter.all false
def trimR (s : List UInt8) : List UInt8 := (s.reverse.dropWhile signB).reverse
def trimS (s : List UInt8) : List UInt8 := (trimR s).dropWhile signB
theorem tab_get (c : UInt8) : ((tabS signs).map AV.d).getD c.toNat .junk = .d (.bl (signB c)) := by
  have : ∀ n, n < 256 → (signs.any fun c => c.toNat == n) = decide (97 ≤ n ∧ n ≤ 122 ∨ 48 ≤ n ∧ n ≤ 57 ∨ n = 46 ∨ n = 95) := by decide +kernel
  have hc := c.toNat_lt
  rw [List.getD, List.getElem?_eq_getElem (by simp [tabS]; omega)]
  simp only [tabS, List.getElem_map, List.getElem_range, Option.getD_some, signB]
  rw [this _ (by omega)]
theorem tab_ld {tab : List D} (ht : tab = tabS signs) (off : Nat) (c : UInt8) (h : off = c.toNat) : ldA ⟨.bool, 1, 1, [.bl false], some [.bl false], []⟩ off (List.map AV.d tab) = .d (.bl (signB c)) := by
  subst h ht
  have := tab_get c
  simpa [ldA, Kd.agg] using this
theorem trimR_0 {s t : List UInt8} (h : s = [] ++ t) (ht : t.all signB = true) : trimR s = [] := by
  subst h
  have key : ∀ l : List UInt8, l.all signB = true → l.dropWhile signB = [] := by
    intro l
    induction l with
    | nil => intro _; rfl
    | cons a l ih =>
      intro h
      rw [List.all_cons, Bool.and_eq_true] at h
      rw [List.dropWhile_cons_of_pos h.1, ih h.2]
  rw [trimR, List.reverse_eq_nil_iff]
  exact key _ (by rw [List.all_reverse]; simpa using ht)
theorem trimR_1 {s r t : List UInt8} {c : UInt8} (h : s = (r ++ [c]) ++ t) (ht : t.all signB = true) (hc : signB c = false) : trimR s = r ++ [c] := by
  subst h
  have e : ((r ++ [c]) ++ t).reverse = t.reverse ++ c :: r.reverse := by simp
  rw [trimR, e, List.dropWhile_append_of_pos (fun x hx => List.all_eq_true.1 ht x (List.mem_reverse.1 hx)), List.dropWhile_cons_of_neg (by simp [hc])]
  simp
theorem last_split {r : List UInt8} {x : UInt8} (h : r[r.length - 1]? = some x) : r = r.take (r.length - 1) ++ [x] := by
  have hl : r.length - 1 < r.length := by
    obtain ⟨hk, _⟩ := List.getElem?_eq_some_iff.1 h
    exact hk
  rw [← take_snoc h, show r.length - 1 + 1 = r.length by omega, List.take_length]
theorem cons_drop {u : List UInt8} {x : UInt8} (h : u[(0 : Int).toNat]? = some x) : u = [x] ++ u.drop 1 := by
  cases u with
  | nil => cases h
  | cons a u => obtain rfl : a = x := Option.some.inj h; rfl
theorem dropW_1 {r t u : List UInt8} {x : UInt8} (h : r = t ++ u) (ht : t.all signB = true) (hx : u[(0 : Int).toNat]? = some x) (hc : signB x = false) : r.dropWhile signB = u := by
  rw [h, List.dropWhile_append_of_pos (fun x hx => List.all_eq_true.1 ht x hx), cons_drop hx]
  exact List.dropWhile_cons_of_neg (by simp [hc])
theorem dropW_0 {r t u : List UInt8} (h : r = t ++ u) (ht : t.all signB = true) (hu : u.length = 0) : r.dropWhile signB = u := by
  obtain rfl := List.length_eq_zero_iff.1 hu
  rw [h, List.dropWhile_append_of_pos (fun x hx => List.all_eq_true.1 ht x hx)]; rfl
theorem trim_ok (s : List UInt8) (h0 : s ≠ []) (hs : s.length ≤ 1000000) : FnC Tryz.prog 71 [.d (.st s), .d (.st signs)] (.d (.st (trimS s))) := by
  refine FnC.intro ti_ok Tryz.func71 rfl Tryz.ntmps71 Tryz.call71 rfl (Nat.le_of_ble_eq_true rfl) rfl ?_
  obtain ⟨tab, ht⟩ : ∃ t, t = tabS signs := ⟨_, rfl⟩
  have hm := makeSet_ok
  rw [← ht] at hm
  (repeat' ((conv => whnf); first | (with_reducible first | refine Spl.tt ?_ | refine Spl.ff ?_) | with_reducible refine CallE.con ⟨_, hm, ?_⟩ | with_reducible refine CallI.inl ti_ok i102 rfl ?_ | (with_reducible first | refine draw_auto ti_ok mixed (by decide +kernel) ?_ | refine g_i64 ?_ | refine g_u64 ?_ | refine g_u8 ?_ | refine g_iq ?_ | refine g_uq ?_ | refine g_rem ?_ | refine LetN.mk ?_ | refine g_hm ?_ | refine g_hb ?_ | refine g_lit ?_ | refine g_nm8 (fun x hx hu => ?_) | refine g_n8 (fun x hx hu => ?_) | refine g_b8 (fun x hx hu => ?_) | refine g_nm (fun x hx => ?_) | refine g_im (fun x hx => ?_) | refine g_n (fun x hx => ?_) | refine g_b (fun x hx => ?_) | refine g_and ?_ | refine g_c ?_ | refine Both.mk ?_ ?_ | refine NilS.ts ?_ | refine LetE.now ?_ | refine AtD.now ?_ | refine LetC.now ?_ | refine g_some ?_ | refine g_yk ?_ | refine g_nk ?_ | refine g_y ?_ | refine g_f ?_ | refine AtA.mk' ?_ | refine Spl.pd (fun h => ?_) (fun h => ?_) | refine Spl.peq (fun h => ?_) (fun h => ?_) | refine Spl.pne (fun h => ?_) (fun h => ?_) | refine Spl.seq (fun h => ?_) (fun h => ?_) | refine Spl.sne (fun h => ?_) (fun h => ?_) | refine Spl.nt ?_ | refine Spl.mk (fun h => ?_) (fun h => ?_))))
  refine loop_mem ti_ok (fun r : List UInt8 => ∃ t, s = r ++ t ∧ t.all signB = true) (fun r => [(0, .d (.st r)), (1, .ptr 0 0)]) (fun _ => [(0, .cells 256 (tab.map .d))]) [0] (fun r => r.length) s ⟨[], by simp, rfl⟩ ⟨rfl, rfl, trivial⟩ ⟨cells_eq rfl (by rw [show List.drop (0 + 256) _ = [] from rfl, List.append_nil]; rfl), entL_nub _ _⟩ rfl (by simp only [List.all_cons, List.all_nil, Ob.lt, all_d]; rfl) ?_
  intro r ⟨t, hr, ha⟩
  have hrl : r.length + t.length = s.length := by rw [hr, List.length_append]
  (repeat' ((conv => whnf); first | (with_reducible first | refine Spl.tt ?_ | refine Spl.ff ?_) | with_reducible refine CallI.inl ti_ok i117 rfl ?_ | with_reducible refine AtA.eq (by with_unfolding_all exact tab_ld ht _ x (by first | omega | (dsimp only; omega) | simp)) ?_ | (with_reducible first | refine draw_auto ti_ok mixed (by decide +kernel) ?_ | refine g_i64 ?_ | refine g_u64 ?_ | refine g_u8 ?_ | refine g_iq ?_ | refine g_uq ?_ | refine g_rem ?_ | refine LetN.mk ?_ | refine g_hm ?_ | refine g_hb ?_ | refine g_lit ?_ | refine g_nm8 (fun x hx hu => ?_) | refine g_n8 (fun x hx hu => ?_) | refine g_b8 (fun x hx hu => ?_) | refine g_nm (fun x hx => ?_) | refine g_im (fun x hx => ?_) | refine g_n (fun x hx => ?_) | refine g_b (fun x hx => ?_) | refine g_and ?_ | refine g_c ?_ | refine Both.mk ?_ ?_ | refine NilS.ts ?_ | refine LetE.now ?_ | refine AtD.now ?_ | refine LetC.now ?_ | refine g_some ?_ | refine g_yk ?_ | refine g_nk ?_ | refine g_y ?_ | refine g_f ?_ | refine AtA.mk' ?_ | refine Spl.pd (fun h => ?_) (fun h => ?_) | refine Spl.peq (fun h => ?_) (fun h => ?_) | refine Spl.pne (fun h => ?_) (fun h => ?_) | refine Spl.seq (fun h => ?_) (fun h => ?_) | refine Spl.sne (fun h => ?_) (fun h => ?_) | refine Spl.nt ?_ | refine Spl.mk (fun h => ?_) (fun h => ?_))))
  · rename_i hx0
    have hx' : r[r.length - 1]? = some x := by rw [show r.length - 1 = ((r.length : Int) - 1).toNat by omega]; exact hx
    have hsp := last_split hx'
    refine againM (r.take (r.length - 1)) ⟨[x] ++ t, by rw [← List.append_assoc, ← hsp]; exact hr, by rw [List.all_append, ha, Bool.and_true]; simpa using h⟩ (by dsimp only; rw [List.length_take]; omega) (And.intro (st_eq ?_) (And.intro rfl trivial)) (And.intro rfl ?_) rfl (by simp only [List.all_cons, List.all_nil, Ob.lt, all_d]; rfl)
    · rw [show ((r.length : Int) - 1).toNat = r.length - 1 by omega]
    · (repeat (first | exact trivial | refine And.intro rfl ?_))
  · have hx' : r[r.length - 1]? = some x := by rw [show r.length - 1 = ((r.length : Int) - 1).toNat by omega]; exact hx
    have hsp := last_split hx'
    have h2 := hr
    rw [hsp] at h2
    have hw : trimS s = r.dropWhile signB := by rw [trimS, trimR_1 h2 ha (by simpa using h), ← hsp]
    (repeat' ((conv => whnf); first | (with_reducible first | refine Spl.tt ?_ | refine Spl.ff ?_) | with_reducible refine CallI.inl ti_ok i101 rfl ?_ | (with_reducible first | refine draw_auto ti_ok mixed (by decide +kernel) ?_ | refine g_i64 ?_ | refine g_u64 ?_ | refine g_u8 ?_ | refine g_iq ?_ | refine g_uq ?_ | refine g_rem ?_ | refine LetN.mk ?_ | refine g_hm ?_ | refine g_hb ?_ | refine g_lit ?_ | refine g_nm8 (fun x hx hu => ?_) | refine g_n8 (fun x hx hu => ?_) | refine g_b8 (fun x hx hu => ?_) | refine g_nm (fun x hx => ?_) | refine g_im (fun x hx => ?_) | refine g_n (fun x hx => ?_) | refine g_b (fun x hx => ?_) | refine g_and ?_ | refine g_c ?_ | refine Both.mk ?_ ?_ | refine NilS.ts ?_ | refine LetE.now ?_ | refine AtD.now ?_ | refine LetC.now ?_ | refine g_some ?_ | refine g_yk ?_ | refine g_nk ?_ | refine g_y ?_ | refine g_f ?_ | refine AtA.mk' ?_ | refine Spl.pd (fun h => ?_) (fun h => ?_) | refine Spl.peq (fun h => ?_) (fun h => ?_) | refine Spl.pne (fun h => ?_) (fun h => ?_) | refine Spl.seq (fun h => ?_) (fun h => ?_) | refine Spl.sne (fun h => ?_) (fun h => ?_) | refine Spl.nt ?_ | refine Spl.mk (fun h => ?_) (fun h => ?_))))
    refine loop_mem ti_ok (fun u : List UInt8 => ∃ t, r = t ++ u ∧ t.all signB = true) (fun u => [(0, .d (.st u)), (1, .ptr 0 0)]) (fun _ => [(0, .cells 256 (tab.map .d))]) [0] (fun u => u.length) r ⟨[], rfl, rfl⟩ ⟨rfl, rfl, trivial⟩ ⟨rfl, entL_nub _ _⟩ rfl (by simp only [List.all_cons, List.all_nil, Ob.lt, all_d]; rfl) ?_
    intro u ⟨t', hu', ha'⟩
    (repeat' ((conv => whnf); first | (with_reducible first | refine Spl.tt ?_ | refine Spl.ff ?_) | with_reducible refine CallI.inl ti_ok i117 rfl ?_ | with_reducible refine AtA.eq (by with_unfolding_all exact tab_ld ht _ x (by first | omega | (dsimp only; omega) | simp)) ?_ | (with_reducible first | refine draw_auto ti_ok mixed (by decide +kernel) ?_ | refine g_i64 ?_ | refine g_u64 ?_ | refine g_u8 ?_ | refine g_iq ?_ | refine g_uq ?_ | refine g_rem ?_ | refine LetN.mk ?_ | refine g_hm ?_ | refine g_hb ?_ | refine g_lit ?_ | refine g_nm8 (fun x hx hu => ?_) | refine g_n8 (fun x hx hu => ?_) | refine g_b8 (fun x hx hu => ?_) | refine g_nm (fun x hx => ?_) | refine g_im (fun x hx => ?_) | refine g_n (fun x hx => ?_) | refine g_b (fun x hx => ?_) | refine g_and ?_ | refine g_c ?_ | refine Both.mk ?_ ?_ | refine NilS.ts ?_ | refine LetE.now ?_ | refine AtD.now ?_ | refine LetC.now ?_ | refine g_some ?_ | refine g_yk ?_ | refine g_nk ?_ | refine g_y ?_ | refine g_f ?_ | refine AtA.mk' ?_ | refine Spl.pd (fun h => ?_) (fun h => ?_) | refine Spl.peq (fun h => ?_) (fun h => ?_) | refine Spl.pne (fun h => ?_) (fun h => ?_) | refine Spl.seq (fun h => ?_) (fun h => ?_) | refine Spl.sne (fun h => ?_) (fun h => ?_) | refine Spl.nt ?_ | refine Spl.mk (fun h => ?_) (fun h => ?_))))
    · refine againM (u.drop 1) ⟨t' ++ [x], ?_, ?_⟩ (by dsimp only; rw [List.length_drop]; omega) (And.intro (st_eq ?_) (And.intro rfl trivial)) (And.intro rfl ?_) rfl (by simp only [List.all_cons, List.all_nil, Ob.lt, all_d]; rfl)
      · rw [List.append_assoc, hu']; congr 1; exact cons_drop hx
      · rw [List.all_append, ha', Bool.true_and]; simpa using h
      · simp
      · (repeat (first | exact trivial | refine And.intro rfl ?_))
    · exact st_eq (hw.trans (dropW_1 hu' ha' hx (by simpa using h))).symm
    · exact st_eq (hw.trans (dropW_0 hu' ha' (by omega))).symm
  · have hw : trimS s = r.dropWhile signB := by
      have hr0 : r = [] := List.length_eq_zero_iff.1 (by omega)
      rw [hr0] at hr
      rw [trimS, trimR_0 hr ha, hr0]
    (repeat' ((conv => whnf); first | (with_reducible first | refine Spl.tt ?_ | refine Spl.ff ?_) | with_reducible refine CallI.inl ti_ok i101 rfl ?_ | (with_reducible first | refine draw_auto ti_ok mixed (by decide +kernel) ?_ | refine g_i64 ?_ | refine g_u64 ?_ | refine g_u8 ?_ | refine g_iq ?_ | refine g_uq ?_ | refine g_rem ?_ | refine LetN.mk ?_ | refine g_hm ?_ | refine g_hb ?_ | refine g_lit ?_ | refine g_nm8 (fun x hx hu => ?_) | refine g_n8 (fun x hx hu => ?_) | refine g_b8 (fun x hx hu => ?_) | refine g_nm (fun x hx => ?_) | refine g_im (fun x hx => ?_) | refine g_n (fun x hx => ?_) | refine g_b (fun x hx => ?_) | refine g_and ?_ | refine g_c ?_ | refine Both.mk ?_ ?_ | refine NilS.ts ?_ | refine LetE.now ?_ | refine AtD.now ?_ | refine LetC.now ?_ | refine g_some ?_ | refine g_yk ?_ | refine g_nk ?_ | refine g_y ?_ | refine g_f ?_ | refine AtA.mk' ?_ | refine Spl.pd (fun h => ?_) (fun h => ?_) | refine Spl.peq (fun h => ?_) (fun h => ?_) | refine Spl.pne (fun h => ?_) (fun h => ?_) | refine Spl.seq (fun h => ?_) (fun h => ?_) | refine Spl.sne (fun h => ?_) (fun h => ?_) | refine Spl.nt ?_ | refine Spl.mk (fun h => ?_) (fun h => ?_))))
    refine loop_mem ti_ok (fun u : List UInt8 => ∃ t, r = t ++ u ∧ t.all signB = true) (fun u => [(0, .d (.st u)), (1, .ptr 0 0)]) (fun _ => [(0, .cells 256 (tab.map .d))]) [0] (fun u => u.length) r ⟨[], rfl, rfl⟩ ⟨rfl, rfl, trivial⟩ ⟨rfl, entL_nub _ _⟩ rfl (by simp only [List.all_cons, List.all_nil, Ob.lt, all_d]; rfl) ?_
    intro u ⟨t', hu', ha'⟩
    (repeat' ((conv => whnf); first | (with_reducible first | refine Spl.tt ?_ | refine Spl.ff ?_) | with_reducible refine CallI.inl ti_ok i117 rfl ?_ | with_reducible refine AtA.eq (by with_unfolding_all exact tab_ld ht _ x (by first | omega | (dsimp only; omega) | simp)) ?_ | (with_reducible first | refine draw_auto ti_ok mixed (by decide +kernel) ?_ | refine g_i64 ?_ | refine g_u64 ?_ | refine g_u8 ?_ | refine g_iq ?_ | refine g_uq ?_ | refine g_rem ?_ | refine LetN.mk ?_ | refine g_hm ?_ | refine g_hb ?_ | refine g_lit ?_ | refine g_nm8 (fun x hx hu => ?_) | refine g_n8 (fun x hx hu => ?_) | refine g_b8 (fun x hx hu => ?_) | refine g_nm (fun x hx => ?_) | refine g_im (fun x hx => ?_) | refine g_n (fun x hx => ?_) | refine g_b (fun x hx => ?_) | refine g_and ?_ | refine g_c ?_ | refine Both.mk ?_ ?_ | refine NilS.ts ?_ | refine LetE.now ?_ | refine AtD.now ?_ | refine LetC.now ?_ | refine g_some ?_ | refine g_yk ?_ | refine g_nk ?_ | refine g_y ?_ | refine g_f ?_ | refine AtA.mk' ?_ | refine Spl.pd (fun h => ?_) (fun h => ?_) | refine Spl.peq (fun h => ?_) (fun h => ?_) | refine Spl.pne (fun h => ?_) (fun h => ?_) | refine Spl.seq (fun h => ?_) (fun h => ?_) | refine Spl.sne (fun h => ?_) (fun h => ?_) | refine Spl.nt ?_ | refine Spl.mk (fun h => ?_) (fun h => ?_))))
    · refine againM (u.drop 1) ⟨t' ++ [x], ?_, ?_⟩ (by dsimp only; rw [List.length_drop]; omega) (And.intro (st_eq ?_) (And.intro rfl trivial)) (And.intro rfl ?_) rfl (by simp only [List.all_cons, List.all_nil, Ob.lt, all_d]; rfl)
      · rw [List.append_assoc, hu']; congr 1; exact cons_drop hx
      · rw [List.all_append, ha', Bool.true_and]; simpa using h
      · simp
      · (repeat (first | exact trivial | refine And.intro rfl ?_))
    · exact st_eq (hw.trans (dropW_1 hu' ha' hx (by simpa using h))).symm
    · exact st_eq (hw.trans (dropW_0 hu' ha' (by omega))).symm
end Go.Proofs.YtfpcclakpklghaaGreatDoor

namespace Go.Proofs.YtfpcclakpklghaaGreatDoor
open Go.Sy
set_option maxRecDepth 100000
set_option linter.all false
def stL (b : List UInt8) : List D := [.st b]
theorem arr2 {vs : Array Value} (h : vs.size = 2) : vs = #[vs.getD 0 undef, vs.getD 1 undef] := by
  apply Array.ext
  · simpa using h
  · intro i h1 h2
    have : i = 0 ∨ i = 1 := by simp at h2; omega
    rcases this with rfl | rfl <;> simp [Array.getD, h]
theorem two_st {g : Gh} {vs : Array Value} {s t : List UInt8} (hsz : vs.size = 2) (hav : ∀ (j : Nat) (h : j < [AV.d (.st s), AV.d (.st t)].length), AVR g [AV.d (.st s), AV.d (.st t)][j] (vs.getD j undef)) : vs = #[.string ⟨s.toArray⟩, .string ⟨t.toArray⟩] := by
  have ha := hav 0 (by simp)
  have hb := hav 1 (by simp)
  rw [arr2 hsz]
  simp only [List.getElem_cons_zero, List.getElem_cons_succ] at ha hb
  generalize vs.getD 0 undef = a at ha
  generalize vs.getD 1 undef = b at hb
  cases hb with | d _ _ hb => ?_
  cases hb with | st => ?_
  cases ha with | d _ _ ha => ?_
  cases ha with | st => ?_
  rfl
theorem still_ok {f : Nat} {s t : List UInt8} {k : Int} (hc : ∀ (vs : Array Value) (w : World), (callFunc f vs).run Tryz.prog w = .ok (.enter f vs) w) (h : ∀ w, Calls Tryz.prog f #[.string ⟨s.toArray⟩, .string ⟨t.toArray⟩] w fun e w' => e = .returned (.int .i64 k) ∧ w' = w) : FnC Tryz.prog f [.d (.st s), .d (.st t)] (.d (.it .i64 k)) := by
  refine ⟨rfl, fun g w vs hfz hsz hav => .inl ⟨hc _ _, ?_⟩⟩
  rw [two_st hsz hav]
  refine (h w).mono ?_
  rintro e w' ⟨rfl, rfl⟩
  exact ⟨_, g, rfl, .d _ _ (.it _ _), fun _ _ _ h => h, fun _ _ _ h => .inl h, hfz, Nat.le_refl _, fun _ _ => rfl, rfl, rfl, rfl⟩
theorem index_ok (s : List UInt8) (c : UInt8) : FnC Tryz.prog 97 [.d (.st s), .d (.st [c])] (.d (.it .i64 (Lib.indexByte s c))) := still_ok Tryz.call97 fun w => Tryz.strings_Index_one ⟨s.toArray⟩ c w
theorem count_ok (s : List UInt8) (c : UInt8) : FnC Tryz.prog 96 [.d (.st s), .d (.st [c])] (.d (.it .i64 (Lib.countByte s c))) := still_ok Tryz.call96 fun w => Tryz.strings_Count_one ⟨s.toArray⟩ c w
theorem wordsC_none (c : UInt8) : ∀ (s : List UInt8), Lib.indexByte s c = -1 → wordsC c s = [s]
  | [], _ => rfl
  | b :: t, h => by
    unfold Lib.indexByte at h
    have hge := Lib.indexByte_ge t c
    by_cases hb : b = c
    · obtain rfl := hb; simp at h
    · have hb' : (b == c) = false := beq_eq_false_iff_ne.2 hb
      rw [hb'] at h
      simp only [Bool.false_eq_true, if_false] at h
      have ht : Lib.indexByte t c = -1 := by
        by_cases h1 : Lib.indexByte t c = -1
        · exact h1
        · have : (Lib.indexByte t c == -1) = false := by simpa using h1
          rw [this] at h
          simp only [Bool.false_eq_true, if_false] at h
          omega
      simp only [wordsC, if_neg hb, wordsC_none c t ht]
theorem wordsC_some (c : UInt8) : ∀ (s : List UInt8), 0 ≤ Lib.indexByte s c → Lib.indexByte s c < s.length ∧ wordsC c s = s.take (Lib.indexByte s c).toNat :: wordsC c (s.drop ((Lib.indexByte s c).toNat + 1)) ∧ s.count c = 1 + (s.drop ((Lib.indexByte s c).toNat + 1)).count c
  | [], h => by simp [Lib.indexByte] at h
  | b :: t, h => by
    have hge := Lib.indexByte_ge t c
    by_cases hb : b = c
    · obtain rfl := hb
      have e : Lib.indexByte (b :: t) b = 0 := by simp [Lib.indexByte]
      rw [e]
      refine ⟨by simp, by simp [wordsC], by simp; omega⟩
    · have hb' : (b == c) = false := beq_eq_false_iff_ne.2 hb
      have e : Lib.indexByte (b :: t) c = if Lib.indexByte t c == -1 then -1 else Lib.indexByte t c + 1 := by simp [Lib.indexByte, hb]
      rw [e] at h ⊢
      by_cases h1 : Lib.indexByte t c = -1
      · rw [h1] at h; simp at h
      · have h2 : (Lib.indexByte t c == -1) = false := by simpa using h1
        rw [h2] at h ⊢
        simp only [Bool.false_eq_true, if_false] at h ⊢
        obtain ⟨k1, k2, k3⟩ := wordsC_some c t (by omega)
        have hn : (Lib.indexByte t c + 1).toNat = (Lib.indexByte t c).toNat + 1 := by omega
        rw [hn]
        refine ⟨by simp; omega, ?_, ?_⟩
        · simp only [wordsC, if_neg hb, k2, List.take_succ_cons, List.drop_succ_cons]
        · simp only [List.drop_succ_cons, List.count_cons, hb', Bool.false_eq_true, if_false, Nat.add_zero]
          exact k3
theorem countC_none (c : UInt8) : ∀ (s : List UInt8), Lib.indexByte s c = -1 → s.count c = 0 := by
  intro s
  induction s with
  | nil => intro _; rfl
  | cons b t ih =>
    intro h
    have hge := Lib.indexByte_ge t c
    by_cases hb : b = c
    · obtain rfl := hb; simp [Lib.indexByte] at h
    · have e : Lib.indexByte (b :: t) c = if Lib.indexByte t c == -1 then -1 else Lib.indexByte t c + 1 := by simp [Lib.indexByte, hb]
      rw [e] at h
      by_cases h1 : Lib.indexByte t c = -1
      · have hb' : (b == c) = false := beq_eq_false_iff_ne.2 hb
        simp only [List.count_cons, hb', Bool.false_eq_true, if_false, Nat.add_zero]
        exact ih h1
      · have h2 : (Lib.indexByte t c == -1) = false := by simpa using h1
        rw [h2] at h
        simp only [Bool.false_eq_true, if_false] at h
        omega
theorem wordsC_len (c : UInt8) (s : List UInt8) : (wordsC c s).length = s.count c + 1 := by
  induction s with
  | nil => rfl
  | cons b t ih =>
    by_cases hb : b = c
    · obtain rfl := hb; simp [wordsC, ih]
    · have hb' : (b == c) = false := beq_eq_false_iff_ne.2 hb
      simp only [wordsC, if_neg hb, List.count_cons, hb', Bool.false_eq_true, if_false, Nat.add_zero]
      rw [← ih]
      cases h : wordsC c t with
      | nil => rw [h] at ih; simp at ih
      | cons w r => simp
end Go.Proofs.YtfpcclakpklghaaGreatDoor

namespace Go.Proofs.YtfpcclakpklghaaGreatDoor
open Go.Sy
set_option maxRecDepth 100000
set_option linter.all false
def stA (b : List UInt8) : AV := .d (.st b)
def gsA (c : UInt8) (n : Nat) : List (List UInt8) × List UInt8 → S | (x, s) => ⟨[(0, .d (.st s)), (1, .d (.st [c])), (2, .d (.it .i64 0)), (3, .d (.it .i64 n)), (9, .ms 1 1 0 (n + 1) (n + 1)), (10, .d (.it .i64 x.length))], [(1, .cells (n + 1) (x.map stA ++ List.replicate (n + 1 - x.length) (stA [])))], 2⟩
theorem zeros_st (n : Nat) : (zeros n [D.st []]).map toA = List.replicate n (stA []) := by
  induction n with
  | zero => rfl
  | succ n ih => simp only [zeros, List.map_append, ih, List.replicate_succ]; rfl
theorem idx_lt (c : UInt8) (r : List UInt8) : Lib.indexByte r c < r.length := by
  by_cases h : 0 ≤ Lib.indexByte r c
  · exact (wordsC_some c r h).1
  · omega
theorem none_of {c : UInt8} {r : List UInt8} (h : r.count c = 0) : Lib.indexByte r c = -1 := by
  by_cases h0 : 0 ≤ Lib.indexByte r c
  · have := (wordsC_some c r h0).2.2
    omega
  · have := Lib.indexByte_ge r c
    omega
theorem take_all {α : Type} {l : List α} {n : Nat} (h : l.length = n) : l.take n = l := by subst h; exact List.take_length
theorem upd_row (x : List AV) (m : Nat) (z v : AV) : (x ++ List.replicate m z).take x.length ++ [v] ++ (x ++ List.replicate m z).drop (x.length + 1) = x ++ v :: List.replicate (m - 1) z := by
  rw [List.take_left, List.drop_append, List.drop_eq_nil_of_le (by omega), List.nil_append, List.append_assoc]
  congr 1
  simp [show x.length + 1 - x.length = 1 by omega]
theorem flat_st (x : List (List UInt8)) : ((x.map stL).flatten).map AV.d = x.map stA := by
  induction x with
  | nil => rfl
  | cons a t ih => simp only [List.map_cons, List.flatten_cons, List.map_append, ih]; rfl
theorem all_stA (l : List (List UInt8)) (m : Nat) : (l.map stA).all (AV.lt1 m) = true := by
  rw [List.all_eq_true]
  intro x hx
  obtain ⟨b, _, rfl⟩ := List.mem_map.1 hx
  rfl
theorem fin_of (x : List (List UInt8)) (r : List UInt8) (n : Nat) (hl : x.length = n) : (List.drop 0 ((x.map stA ++ List.replicate (n + 1 - x.length) (stA [])).take x.length ++ [AV.d (.st r)] ++ (x.map stA ++ List.replicate (n + 1 - x.length) (stA [])).drop (x.length + 1))).take (((x.length : Int) + 1).toNat * 1) = List.map AV.d (List.map stL (x ++ [r])).flatten := by
  have := upd_row (x.map stA) (n + 1 - x.length) (stA []) (.d (.st r))
  rw [List.length_map] at this
  rw [List.drop_zero, this, flat_st, show n + 1 - x.length - 1 = 0 by omega]
  rw [List.take_of_length_le (by rw [List.length_append, List.length_map]; simp), List.map_append]; rfl
theorem genSplit_ok (c : UInt8) (s : List UInt8) (hs : s.length ≤ 1000000) : FnC Tryz.prog 69 [.d (.st s), .d (.st [c]), .d (.it .i64 0), .d (.it .i64 (-1))] (.d (.fs 1 ((wordsC c s).map stL))) := by
  refine FnC.intro ti_ok Tryz.func69 rfl Tryz.ntmps69 Tryz.call69 rfl (Nat.le_of_ble_eq_true rfl) rfl ?_
  have hcnt : s.count c ≤ s.length := List.count_le_length
  have hc0 : Lib.countByte s c = s.count c := rfl
  (repeat' ((conv => whnf); first | (with_reducible first | refine Spl.tt ?_ | refine Spl.ff ?_) | refine CallE.con ⟨_, count_ok s c, ?_⟩ | with_reducible refine LetI.eq ((s.count c + 1 : Nat) : Int) (by split <;> omega) ?_ | with_reducible refine LetN.eq (s.count c + 1) (by omega) ?_ | (with_reducible first | refine draw_auto ti_ok mixed (by decide +kernel) ?_ | refine g_i64 ?_ | refine g_u64 ?_ | refine g_u8 ?_ | refine g_iq ?_ | refine g_uq ?_ | refine g_rem ?_ | refine LetN.mk ?_ | refine g_hm ?_ | refine g_hb ?_ | refine g_lit ?_ | refine g_nm8 (fun x hx hu => ?_) | refine g_n8 (fun x hx hu => ?_) | refine g_b8 (fun x hx hu => ?_) | refine g_nm (fun x hx => ?_) | refine g_im (fun x hx => ?_) | refine g_n (fun x hx => ?_) | refine g_b (fun x hx => ?_) | refine g_and ?_ | refine g_c ?_ | refine Both.mk ?_ ?_ | refine NilS.ts ?_ | refine LetE.now ?_ | refine AtD.now ?_ | refine LetC.now ?_ | refine g_some ?_ | refine g_yk ?_ | refine g_nk ?_ | refine g_y ?_ | refine g_f ?_ | refine AtA.mk' ?_ | refine Spl.pd (fun h => ?_) (fun h => ?_) | refine Spl.peq (fun h => ?_) (fun h => ?_) | refine Spl.pne (fun h => ?_) (fun h => ?_) | refine Spl.seq (fun h => ?_) (fun h => ?_) | refine Spl.sne (fun h => ?_) (fun h => ?_) | refine Spl.nt ?_ | refine Spl.mk (fun h => ?_) (fun h => ?_))))
  have hz := zeros_st (s.count c + 1)
  refine loop_rule ti_ok (fun x : List (List UInt8) × List UInt8 => wordsC c s = x.1 ++ wordsC c x.2 ∧ x.1.length + x.2.count c = s.count c ∧ x.2.length ≤ s.length) (gsA c (s.count c)) (fun x => s.count c - x.1.length) ([], s) ⟨rfl, by simp, Nat.le_refl _⟩ ⟨⟨rfl, rfl, rfl, it_eq ?_, rfl, rfl, trivial⟩, ⟨cells_eq (Nat.mul_one _) hz, trivial⟩, ?_⟩ ?_
  · omega
  · simp only [S.ok, gsA, List.all_cons, List.all_nil, List.map_nil, List.nil_append, Ob.lt]
    rw [List.all_eq_true.2 (fun x hx => by rw [List.eq_of_mem_replicate hx]; rfl)]
    rfl
  intro ⟨x, r⟩ ⟨i1, i2, i3⟩
  simp only at i1 i2 i3
  have hlt := idx_lt c r
  (repeat' ((conv => whnf); first | (with_reducible first | refine Spl.tt ?_ | refine Spl.ff ?_) | refine CallE.con ⟨_, index_ok r c, ?_⟩ | with_reducible refine LetN.eq x.length (by dsimp only; omega) ?_ | (with_reducible first | refine draw_auto ti_ok mixed (by decide +kernel) ?_ | refine g_i64 ?_ | refine g_u64 ?_ | refine g_u8 ?_ | refine g_iq ?_ | refine g_uq ?_ | refine g_rem ?_ | refine LetN.mk ?_ | refine g_hm ?_ | refine g_hb ?_ | refine g_lit ?_ | refine g_nm8 (fun x hx hu => ?_) | refine g_n8 (fun x hx hu => ?_) | refine g_b8 (fun x hx hu => ?_) | refine g_nm (fun x hx => ?_) | refine g_im (fun x hx => ?_) | refine g_n (fun x hx => ?_) | refine g_b (fun x hx => ?_) | refine g_and ?_ | refine g_c ?_ | refine Both.mk ?_ ?_ | refine NilS.ts ?_ | refine LetE.now ?_ | refine AtD.now ?_ | refine LetC.now ?_ | refine g_some ?_ | refine g_yk ?_ | refine g_nk ?_ | refine g_y ?_ | refine g_f ?_ | refine AtA.mk' ?_ | refine Spl.pd (fun h => ?_) (fun h => ?_) | refine Spl.peq (fun h => ?_) (fun h => ?_) | refine Spl.pne (fun h => ?_) (fun h => ?_) | refine Spl.seq (fun h => ?_) (fun h => ?_) | refine Spl.sne (fun h => ?_) (fun h => ?_) | refine Spl.nt ?_ | refine Spl.mk (fun h => ?_) (fun h => ?_))))
  · have hn : Lib.indexByte r c = -1 := by have := Lib.indexByte_ge r c; omega
    have h0 := countC_none c r hn
    have hl : x.length = s.count c := by omega
    refine ⟨(wordsC c s).map stL, ⟨?_, ?_, ?_, ?_⟩, rfl⟩
    · dsimp only; omega
    · simp only [List.length_map, wordsC_len c]; omega
    · intro y hy
      obtain ⟨z, _, rfl⟩ := List.mem_map.1 hy
      rfl
    · rw [i1, wordsC_none c r hn]
      exact fin_of x r _ hl
  · have h0 : 0 ≤ Lib.indexByte r c := by omega
    obtain ⟨k1, k2, k3⟩ := wordsC_some c r h0
    have e1 : (Lib.indexByte r c + ([c] : List UInt8).length).toNat = (Lib.indexByte r c).toNat + 1 := by simp only [List.length_cons, List.length_nil]; omega
    refine again ((x ++ [r.take (Lib.indexByte r c).toNat], r.drop ((Lib.indexByte r c).toNat + 1)) : List (List UInt8) × List UInt8) ⟨?_, ?_, ?_⟩ (by show _ - (x ++ _).length < _ - x.length; rw [List.length_append, List.length_singleton]; omega) (And.intro (st_eq ?_) (And.intro rfl (And.intro rfl (And.intro rfl (And.intro rfl (And.intro (it_eq ?_) trivial)))))) (And.intro (cells_eq rfl ?_) trivial) ?_
    · rw [i1, k2, List.append_assoc]; rfl
    · show (x ++ _).length + (List.drop _ r).count c = _
      rw [List.length_append, List.length_singleton]; omega
    · show (List.drop _ r).length ≤ _
      rw [List.length_drop]; omega
    · rw [e1]
    · rw [List.length_append, List.length_singleton]; rfl
    · have := upd_row (x.map stA) (s.count c + 1 - x.length) (stA []) (stA (r.take (Lib.indexByte r c).toNat))
      rw [List.length_map] at this
      rw [List.map_append, List.length_append, List.length_singleton]
      refine Eq.trans ?_ (this.trans ?_)
      · simp only [Int.add_zero]; rfl
      · rw [show s.count c + 1 - x.length - 1 = s.count c + 1 - (x.length + 1) by omega, List.append_assoc]; rfl
    · simp only [S.ok, gsA, List.all_cons, List.all_nil, Ob.lt, List.all_append, all_stA]
      rw [List.all_eq_true.2 (fun x hx => by rw [List.eq_of_mem_replicate hx]; rfl)]
      rfl
  · have hn : Lib.indexByte r c = -1 := none_of (by omega)
    have h0 := countC_none c r hn
    have hl : x.length = s.count c := by omega
    refine ⟨(wordsC c s).map stL, ⟨?_, ?_, ?_, ?_⟩, rfl⟩
    · dsimp only; omega
    · simp only [List.length_map, wordsC_len c]; omega
    · intro y hy
      obtain ⟨z, _, rfl⟩ := List.mem_map.1 hy
      rfl
    · rw [i1, wordsC_none c r hn]
      exact fin_of x r _ hl
theorem split_ok (c : UInt8) (s : List UInt8) (hs : s.length ≤ 1000000) : FnC Tryz.prog 53 [.d (.st s), .d (.st [c])] (.d (.fs 1 ((wordsC c s).map stL))) := by
  refine FnC.intro ti_ok Tryz.func53 rfl Tryz.ntmps53 Tryz.call53 rfl (Nat.le_of_ble_eq_true rfl) rfl ?_
  (repeat' ((conv => whnf); first | (with_reducible first | refine Spl.tt ?_ | refine Spl.ff ?_) | refine CallE.con ⟨_, genSplit_ok c s hs, ?_⟩ | (with_reducible first | refine draw_auto ti_ok mixed (by decide +kernel) ?_ | refine g_i64 ?_ | refine g_u64 ?_ | refine g_u8 ?_ | refine g_iq ?_ | refine g_uq ?_ | refine g_rem ?_ | refine LetN.mk ?_ | refine g_hm ?_ | refine g_hb ?_ | refine g_lit ?_ | refine g_nm8 (fun x hx hu => ?_) | refine g_n8 (fun x hx hu => ?_) | refine g_b8 (fun x hx hu => ?_) | refine g_nm (fun x hx => ?_) | refine g_im (fun x hx => ?_) | refine g_n (fun x hx => ?_) | refine g_b (fun x hx => ?_) | refine g_and ?_ | refine g_c ?_ | refine Both.mk ?_ ?_ | refine NilS.ts ?_ | refine LetE.now ?_ | refine AtD.now ?_ | refine LetC.now ?_ | refine g_some ?_ | refine g_yk ?_ | refine g_nk ?_ | refine g_y ?_ | refine g_f ?_ | refine AtA.mk' ?_ | refine Spl.pd (fun h => ?_) (fun h => ?_) | refine Spl.peq (fun h => ?_) (fun h => ?_) | refine Spl.pne (fun h => ?_) (fun h => ?_) | refine Spl.seq (fun h => ?_) (fun h => ?_) | refine Spl.sne (fun h => ?_) (fun h => ?_) | refine Spl.nt ?_ | refine Spl.mk (fun h => ?_) (fun h => ?_))))
  rfl
end Go.Proofs.YtfpcclakpklghaaGreatDoor

namespace Go.Proofs.YtfpcclakpklghaaGreatDoor
open Go.Sy
set_option maxRecDepth 100000
set_option linter.all false
theorem trimS_nil {s : List UInt8} : (trimS s == []) = s.all signB := by
  have key : ∀ l : List UInt8, l.dropWhile signB = [] ↔ l.all signB = true := by
    intro l
    induction l with
    | nil => simp
    | cons a l ih =>
      rw [List.all_cons, Bool.and_eq_true]
      cases ha : signB a with
      | true => rw [List.dropWhile_cons_of_pos ha, ih]; simp
      | false => rw [List.dropWhile_cons_of_neg (by simp [ha])]; simp
  have hall : trimS s = [] ↔ s.all signB = true := by
    rw [trimS, key, trimR]
    constructor
    · intro h
      by_cases h0 : s.all signB = true
      · exact h0
      · exfalso
        have hne : s.reverse.dropWhile signB ≠ [] := fun he => h0 (by rw [← List.all_reverse]; exact (key _).1 he)
        have hd := List.head_dropWhile_not signB hne
        rw [List.all_reverse] at h
        have := List.all_eq_true.1 h _ (List.head_mem hne)
        rw [this] at hd; cases hd
    · intro h
      rw [List.all_reverse, (key _).2 (by rw [List.all_reverse]; exact h)]; rfl
  cases h : s.all signB with
  | true => rw [hall.2 h]; rfl
  | false =>
    have : trimS s ≠ [] := fun he => by rw [hall.1 he] at h; cases h
    simpa using this
theorem name_ok (s : List UInt8) : FnC Tryz.prog 56 [.d (.st s)] (.d (.bl (nameB s))) := by
  refine FnC.intro ti_ok Tryz.func56 rfl Tryz.ntmps56 Tryz.call56 rfl (Nat.le_of_ble_eq_true rfl) rfl ?_
  by_cases h0 : s = []
  · subst h0
    (repeat' ((conv => whnf); first | (with_reducible first | refine Spl.tt ?_ | refine Spl.ff ?_) | (with_reducible first | refine draw_auto ti_ok mixed (by decide +kernel) ?_ | refine g_i64 ?_ | refine g_u64 ?_ | refine g_u8 ?_ | refine g_iq ?_ | refine g_uq ?_ | refine g_rem ?_ | refine LetN.mk ?_ | refine g_hm ?_ | refine g_hb ?_ | refine g_lit ?_ | refine g_nm8 (fun x hx hu => ?_) | refine g_n8 (fun x hx hu => ?_) | refine g_b8 (fun x hx hu => ?_) | refine g_nm (fun x hx => ?_) | refine g_im (fun x hx => ?_) | refine g_n (fun x hx => ?_) | refine g_b (fun x hx => ?_) | refine g_and ?_ | refine g_c ?_ | refine Both.mk ?_ ?_ | refine NilS.ts ?_ | refine LetE.now ?_ | refine AtD.now ?_ | refine LetC.now ?_ | refine g_some ?_ | refine g_yk ?_ | refine g_nk ?_ | refine g_y ?_ | refine g_f ?_ | refine AtA.mk' ?_ | refine Spl.pd (fun h => ?_) (fun h => ?_) | refine Spl.peq (fun h => ?_) (fun h => ?_) | refine Spl.pne (fun h => ?_) (fun h => ?_) | refine Spl.seq (fun h => ?_) (fun h => ?_) | refine Spl.sne (fun h => ?_) (fun h => ?_) | refine Spl.nt ?_ | refine Spl.mk (fun h => ?_) (fun h => ?_))))
    rfl
  have hp : 1 ≤ s.length := List.length_pos_iff.2 h0
  by_cases h8 : s.length ≤ 8
  · by_cases h1 : s = [46]
    · subst h1
      (repeat' ((conv => whnf); first | (with_reducible first | refine Spl.tt ?_ | refine Spl.ff ?_) | (with_reducible first | refine draw_auto ti_ok mixed (by decide +kernel) ?_ | refine g_i64 ?_ | refine g_u64 ?_ | refine g_u8 ?_ | refine g_iq ?_ | refine g_uq ?_ | refine g_rem ?_ | refine LetN.mk ?_ | refine g_hm ?_ | refine g_hb ?_ | refine g_lit ?_ | refine g_nm8 (fun x hx hu => ?_) | refine g_n8 (fun x hx hu => ?_) | refine g_b8 (fun x hx hu => ?_) | refine g_nm (fun x hx => ?_) | refine g_im (fun x hx => ?_) | refine g_n (fun x hx => ?_) | refine g_b (fun x hx => ?_) | refine g_and ?_ | refine g_c ?_ | refine Both.mk ?_ ?_ | refine NilS.ts ?_ | refine LetE.now ?_ | refine AtD.now ?_ | refine LetC.now ?_ | refine g_some ?_ | refine g_yk ?_ | refine g_nk ?_ | refine g_y ?_ | refine g_f ?_ | refine AtA.mk' ?_ | refine Spl.pd (fun h => ?_) (fun h => ?_) | refine Spl.peq (fun h => ?_) (fun h => ?_) | refine Spl.pne (fun h => ?_) (fun h => ?_) | refine Spl.seq (fun h => ?_) (fun h => ?_) | refine Spl.sne (fun h => ?_) (fun h => ?_) | refine Spl.nt ?_ | refine Spl.mk (fun h => ?_) (fun h => ?_))))
      rfl
    by_cases h2 : s = [46, 46]
    · subst h2
      (repeat' ((conv => whnf); first | (with_reducible first | refine Spl.tt ?_ | refine Spl.ff ?_) | (with_reducible first | refine draw_auto ti_ok mixed (by decide +kernel) ?_ | refine g_i64 ?_ | refine g_u64 ?_ | refine g_u8 ?_ | refine g_iq ?_ | refine g_uq ?_ | refine g_rem ?_ | refine LetN.mk ?_ | refine g_hm ?_ | refine g_hb ?_ | refine g_lit ?_ | refine g_nm8 (fun x hx hu => ?_) | refine g_n8 (fun x hx hu => ?_) | refine g_b8 (fun x hx hu => ?_) | refine g_nm (fun x hx => ?_) | refine g_im (fun x hx => ?_) | refine g_n (fun x hx => ?_) | refine g_b (fun x hx => ?_) | refine g_and ?_ | refine g_c ?_ | refine Both.mk ?_ ?_ | refine NilS.ts ?_ | refine LetE.now ?_ | refine AtD.now ?_ | refine LetC.now ?_ | refine g_some ?_ | refine g_yk ?_ | refine g_nk ?_ | refine g_y ?_ | refine g_f ?_ | refine AtA.mk' ?_ | refine Spl.pd (fun h => ?_) (fun h => ?_) | refine Spl.peq (fun h => ?_) (fun h => ?_) | refine Spl.pne (fun h => ?_) (fun h => ?_) | refine Spl.seq (fun h => ?_) (fun h => ?_) | refine Spl.sne (fun h => ?_) (fun h => ?_) | refine Spl.nt ?_ | refine Spl.mk (fun h => ?_) (fun h => ?_))))
      rfl
    rw [nameB_yes hp h8 h1 h2, ← trimS_nil]
    (repeat' ((conv => whnf); first | (with_reducible first | refine Spl.tt ?_ | refine Spl.ff ?_) | refine CallE.con ⟨_, trim_ok s h0 (by omega), ?_⟩ | (with_reducible first | refine draw_auto ti_ok mixed (by decide +kernel) ?_ | refine g_i64 ?_ | refine g_u64 ?_ | refine g_u8 ?_ | refine g_iq ?_ | refine g_uq ?_ | refine g_rem ?_ | refine LetN.mk ?_ | refine g_hm ?_ | refine g_hb ?_ | refine g_lit ?_ | refine g_nm8 (fun x hx hu => ?_) | refine g_n8 (fun x hx hu => ?_) | refine g_b8 (fun x hx hu => ?_) | refine g_nm (fun x hx => ?_) | refine g_im (fun x hx => ?_) | refine g_n (fun x hx => ?_) | refine g_b (fun x hx => ?_) | refine g_and ?_ | refine g_c ?_ | refine Both.mk ?_ ?_ | refine NilS.ts ?_ | refine LetE.now ?_ | refine AtD.now ?_ | refine LetC.now ?_ | refine g_some ?_ | refine g_yk ?_ | refine g_nk ?_ | refine g_y ?_ | refine g_f ?_ | refine AtA.mk' ?_ | refine Spl.pd (fun h => ?_) (fun h => ?_) | refine Spl.peq (fun h => ?_) (fun h => ?_) | refine Spl.pne (fun h => ?_) (fun h => ?_) | refine Spl.seq (fun h => ?_) (fun h => ?_) | refine Spl.sne (fun h => ?_) (fun h => ?_) | refine Spl.nt ?_ | refine Spl.mk (fun h => ?_) (fun h => ?_))))
    rfl
  · rw [nameB_no (by omega)]
    (repeat' ((conv => whnf); first | (with_reducible first | refine Spl.tt ?_ | refine Spl.ff ?_) | (with_reducible first | refine draw_auto ti_ok mixed (by decide +kernel) ?_ | refine g_i64 ?_ | refine g_u64 ?_ | refine g_u8 ?_ | refine g_iq ?_ | refine g_uq ?_ | refine g_rem ?_ | refine LetN.mk ?_ | refine g_hm ?_ | refine g_hb ?_ | refine g_lit ?_ | refine g_nm8 (fun x hx hu => ?_) | refine g_n8 (fun x hx hu => ?_) | refine g_b8 (fun x hx hu => ?_) | refine g_nm (fun x hx => ?_) | refine g_im (fun x hx => ?_) | refine g_n (fun x hx => ?_) | refine g_b (fun x hx => ?_) | refine g_and ?_ | refine g_c ?_ | refine Both.mk ?_ ?_ | refine NilS.ts ?_ | refine LetE.now ?_ | refine AtD.now ?_ | refine LetC.now ?_ | refine g_some ?_ | refine g_yk ?_ | refine g_nk ?_ | refine g_y ?_ | refine g_f ?_ | refine AtA.mk' ?_ | refine Spl.pd (fun h => ?_) (fun h => ?_) | refine Spl.peq (fun h => ?_) (fun h => ?_) | refine Spl.pne (fun h => ?_) (fun h => ?_) | refine Spl.seq (fun h => ?_) (fun h => ?_) | refine Spl.sne (fun h => ?_) (fun h => ?_) | refine Spl.nt ?_ | refine Spl.mk (fun h => ?_) (fun h => ?_))))
    rfl
theorem hasPre_ok (s : List UInt8) : FnC Tryz.prog 94 [.d (.st s), .d (.st [47])] (.d (.bl (s.head? == some 47))) := by
  refine FnC.intro ti_ok Tryz.func94 rfl Tryz.ntmps94 Tryz.call94 rfl (Nat.le_of_ble_eq_true rfl) rfl ?_
  match s with
  | [] =>
    (repeat' ((conv => whnf); first | (with_reducible first | refine Spl.tt ?_ | refine Spl.ff ?_) | (with_reducible first | refine draw_auto ti_ok mixed (by decide +kernel) ?_ | refine g_i64 ?_ | refine g_u64 ?_ | refine g_u8 ?_ | refine g_iq ?_ | refine g_uq ?_ | refine g_rem ?_ | refine LetN.mk ?_ | refine g_hm ?_ | refine g_hb ?_ | refine g_lit ?_ | refine g_nm8 (fun x hx hu => ?_) | refine g_n8 (fun x hx hu => ?_) | refine g_b8 (fun x hx hu => ?_) | refine g_nm (fun x hx => ?_) | refine g_im (fun x hx => ?_) | refine g_n (fun x hx => ?_) | refine g_b (fun x hx => ?_) | refine g_and ?_ | refine g_c ?_ | refine Both.mk ?_ ?_ | refine NilS.ts ?_ | refine LetE.now ?_ | refine AtD.now ?_ | refine LetC.now ?_ | refine g_some ?_ | refine g_yk ?_ | refine g_nk ?_ | refine g_y ?_ | refine g_f ?_ | refine AtA.mk' ?_ | refine Spl.pd (fun h => ?_) (fun h => ?_) | refine Spl.peq (fun h => ?_) (fun h => ?_) | refine Spl.pne (fun h => ?_) (fun h => ?_) | refine Spl.seq (fun h => ?_) (fun h => ?_) | refine Spl.sne (fun h => ?_) (fun h => ?_) | refine Spl.nt ?_ | refine Spl.mk (fun h => ?_) (fun h => ?_))))
    rfl
  | b :: r =>
    (repeat' ((conv => whnf); first | (with_reducible first | refine Spl.tt ?_ | refine Spl.ff ?_) | (with_reducible first | refine draw_auto ti_ok mixed (by decide +kernel) ?_ | refine g_i64 ?_ | refine g_u64 ?_ | refine g_u8 ?_ | refine g_iq ?_ | refine g_uq ?_ | refine g_rem ?_ | refine LetN.mk ?_ | refine g_hm ?_ | refine g_hb ?_ | refine g_lit ?_ | refine g_nm8 (fun x hx hu => ?_) | refine g_n8 (fun x hx hu => ?_) | refine g_b8 (fun x hx hu => ?_) | refine g_nm (fun x hx => ?_) | refine g_im (fun x hx => ?_) | refine g_n (fun x hx => ?_) | refine g_b (fun x hx => ?_) | refine g_and ?_ | refine g_c ?_ | refine Both.mk ?_ ?_ | refine NilS.ts ?_ | refine LetE.now ?_ | refine AtD.now ?_ | refine LetC.now ?_ | refine g_some ?_ | refine g_yk ?_ | refine g_nk ?_ | refine g_y ?_ | refine g_f ?_ | refine AtA.mk' ?_ | refine Spl.pd (fun h => ?_) (fun h => ?_) | refine Spl.peq (fun h => ?_) (fun h => ?_) | refine Spl.pne (fun h => ?_) (fun h => ?_) | refine Spl.seq (fun h => ?_) (fun h => ?_) | refine Spl.sne (fun h => ?_) (fun h => ?_) | refine Spl.nt ?_ | refine Spl.mk (fun h => ?_) (fun h => ?_))))
    · refine bl_eq ?_
      show ([b] == [47]) = (some b == some 47)
      by_cases hb : b = 47
      · subst hb; rfl
      · rw [seq_ff (by simpa using hb)]; exact (beq_eq_false_iff_ne.2 (by simpa using hb)).symm
    · exfalso; simp at h; omega
theorem tup_st {a b : List UInt8} {x : AV} (h : a = b) : AV.tup [.d (.st a), x] = AV.tup [.d (.st b), x] := by rw [h]
theorem cutsP_1 (r : List UInt8) : FnC Tryz.prog 68 [.d (.st (47 :: r)), .d (.st [47])] (.tup [.d (.st r), .d (.bl true)]) := by
  refine FnC.intro ti_ok Tryz.func68 rfl Tryz.ntmps68 Tryz.call68 rfl (Nat.le_of_ble_eq_true rfl) rfl ?_
  have h : FnC Tryz.prog 94 [.d (.st (47 :: r)), .d (.st [47])] (.d (.bl true)) := hasPre_ok (47 :: r)
  (repeat' ((conv => whnf); first | (with_reducible first | refine Spl.tt ?_ | refine Spl.ff ?_) | refine CallE.con ⟨_, h, ?_⟩ | (with_reducible first | refine draw_auto ti_ok mixed (by decide +kernel) ?_ | refine g_i64 ?_ | refine g_u64 ?_ | refine g_u8 ?_ | refine g_iq ?_ | refine g_uq ?_ | refine g_rem ?_ | refine LetN.mk ?_ | refine g_hm ?_ | refine g_hb ?_ | refine g_lit ?_ | refine g_nm8 (fun x hx hu => ?_) | refine g_n8 (fun x hx hu => ?_) | refine g_b8 (fun x hx hu => ?_) | refine g_nm (fun x hx => ?_) | refine g_im (fun x hx => ?_) | refine g_n (fun x hx => ?_) | refine g_b (fun x hx => ?_) | refine g_and ?_ | refine g_c ?_ | refine Both.mk ?_ ?_ | refine NilS.ts ?_ | refine LetE.now ?_ | refine AtD.now ?_ | refine LetC.now ?_ | refine g_some ?_ | refine g_yk ?_ | refine g_nk ?_ | refine g_y ?_ | refine g_f ?_ | refine AtA.mk' ?_ | refine Spl.pd (fun h => ?_) (fun h => ?_) | refine Spl.peq (fun h => ?_) (fun h => ?_) | refine Spl.pne (fun h => ?_) (fun h => ?_) | refine Spl.seq (fun h => ?_) (fun h => ?_) | refine Spl.sne (fun h => ?_) (fun h => ?_) | refine Spl.nt ?_ | refine Spl.mk (fun h => ?_) (fun h => ?_))))
  exact tup_st (by simp)
theorem cutsP_0 (s : List UInt8) (hs : s.head? ≠ some 47) : FnC Tryz.prog 68 [.d (.st s), .d (.st [47])] (.tup [.d (.st s), .d (.bl false)]) := by
  refine FnC.intro ti_ok Tryz.func68 rfl Tryz.ntmps68 Tryz.call68 rfl (Nat.le_of_ble_eq_true rfl) rfl ?_
  have h := hasPre_ok s
  rw [show (s.head? == some 47) = false by simpa using hs] at h
  (repeat' ((conv => whnf); first | (with_reducible first | refine Spl.tt ?_ | refine Spl.ff ?_) | refine CallE.con ⟨_, h, ?_⟩ | (with_reducible first | refine draw_auto ti_ok mixed (by decide +kernel) ?_ | refine g_i64 ?_ | refine g_u64 ?_ | refine g_u8 ?_ | refine g_iq ?_ | refine g_uq ?_ | refine g_rem ?_ | refine LetN.mk ?_ | refine g_hm ?_ | refine g_hb ?_ | refine g_lit ?_ | refine g_nm8 (fun x hx hu => ?_) | refine g_n8 (fun x hx hu => ?_) | refine g_b8 (fun x hx hu => ?_) | refine g_nm (fun x hx => ?_) | refine g_im (fun x hx => ?_) | refine g_n (fun x hx => ?_) | refine g_b (fun x hx => ?_) | refine g_and ?_ | refine g_c ?_ | refine Both.mk ?_ ?_ | refine NilS.ts ?_ | refine LetE.now ?_ | refine AtD.now ?_ | refine LetC.now ?_ | refine g_some ?_ | refine g_yk ?_ | refine g_nk ?_ | refine g_y ?_ | refine g_f ?_ | refine AtA.mk' ?_ | refine Spl.pd (fun h => ?_) (fun h => ?_) | refine Spl.peq (fun h => ?_) (fun h => ?_) | refine Spl.pne (fun h => ?_) (fun h => ?_) | refine Spl.seq (fun h => ?_) (fun h => ?_) | refine Spl.sne (fun h => ?_) (fun h => ?_) | refine Spl.nt ?_ | refine Spl.mk (fun h => ?_) (fun h => ?_))))
  rfl
theorem cutP_1 (r : List UInt8) : FnC Tryz.prog 52 [.d (.st (47 :: r)), .d (.st [47])] (.tup [.d (.st r), .d (.bl true)]) := by
  refine FnC.intro ti_ok Tryz.func52 rfl Tryz.ntmps52 Tryz.call52 rfl (Nat.le_of_ble_eq_true rfl) rfl ?_
  (repeat' ((conv => whnf); first | (with_reducible first | refine Spl.tt ?_ | refine Spl.ff ?_) | refine CallE.con ⟨_, cutsP_1 r, ?_⟩ | (with_reducible first | refine draw_auto ti_ok mixed (by decide +kernel) ?_ | refine g_i64 ?_ | refine g_u64 ?_ | refine g_u8 ?_ | refine g_iq ?_ | refine g_uq ?_ | refine g_rem ?_ | refine LetN.mk ?_ | refine g_hm ?_ | refine g_hb ?_ | refine g_lit ?_ | refine g_nm8 (fun x hx hu => ?_) | refine g_n8 (fun x hx hu => ?_) | refine g_b8 (fun x hx hu => ?_) | refine g_nm (fun x hx => ?_) | refine g_im (fun x hx => ?_) | refine g_n (fun x hx => ?_) | refine g_b (fun x hx => ?_) | refine g_and ?_ | refine g_c ?_ | refine Both.mk ?_ ?_ | refine NilS.ts ?_ | refine LetE.now ?_ | refine AtD.now ?_ | refine LetC.now ?_ | refine g_some ?_ | refine g_yk ?_ | refine g_nk ?_ | refine g_y ?_ | refine g_f ?_ | refine AtA.mk' ?_ | refine Spl.pd (fun h => ?_) (fun h => ?_) | refine Spl.peq (fun h => ?_) (fun h => ?_) | refine Spl.pne (fun h => ?_) (fun h => ?_) | refine Spl.seq (fun h => ?_) (fun h => ?_) | refine Spl.sne (fun h => ?_) (fun h => ?_) | refine Spl.nt ?_ | refine Spl.mk (fun h => ?_) (fun h => ?_))))
  rfl
theorem cutP_0 (s : List UInt8) (hs : s.head? ≠ some 47) : FnC Tryz.prog 52 [.d (.st s), .d (.st [47])] (.tup [.d (.st s), .d (.bl false)]) := by
  refine FnC.intro ti_ok Tryz.func52 rfl Tryz.ntmps52 Tryz.call52 rfl (Nat.le_of_ble_eq_true rfl) rfl ?_
  (repeat' ((conv => whnf); first | (with_reducible first | refine Spl.tt ?_ | refine Spl.ff ?_) | refine CallE.con ⟨_, cutsP_0 s hs, ?_⟩ | (with_reducible first | refine draw_auto ti_ok mixed (by decide +kernel) ?_ | refine g_i64 ?_ | refine g_u64 ?_ | refine g_u8 ?_ | refine g_iq ?_ | refine g_uq ?_ | refine g_rem ?_ | refine LetN.mk ?_ | refine g_hm ?_ | refine g_hb ?_ | refine g_lit ?_ | refine g_nm8 (fun x hx hu => ?_) | refine g_n8 (fun x hx hu => ?_) | refine g_b8 (fun x hx hu => ?_) | refine g_nm (fun x hx => ?_) | refine g_im (fun x hx => ?_) | refine g_n (fun x hx => ?_) | refine g_b (fun x hx => ?_) | refine g_and ?_ | refine g_c ?_ | refine Both.mk ?_ ?_ | refine NilS.ts ?_ | refine LetE.now ?_ | refine AtD.now ?_ | refine LetC.now ?_ | refine g_some ?_ | refine g_yk ?_ | refine g_nk ?_ | refine g_y ?_ | refine g_f ?_ | refine AtA.mk' ?_ | refine Spl.pd (fun h => ?_) (fun h => ?_) | refine Spl.peq (fun h => ?_) (fun h => ?_) | refine Spl.pne (fun h => ?_) (fun h => ?_) | refine Spl.seq (fun h => ?_) (fun h => ?_) | refine Spl.sne (fun h => ?_) (fun h => ?_) | refine Spl.nt ?_ | refine Spl.mk (fun h => ?_) (fun h => ?_))))
  rfl
def tupP (p : List (List UInt8) × Int) : AV := .tup [.d (.fs 1 (p.1.map stL)), .d (.it .i64 p.2)]
theorem all_snocX {α : Type} {f : α → Bool} {l : List α} {k : Nat} {c : α} (h : l[k]? = some c) : (l.take (k + 1)).all f = ((l.take k).all f && f c) := by
  rw [take_snoc h, List.all_append]; simp
theorem not_allX {α : Type} {f : α → Bool} {l : List α} {k : Nat} {c : α} (h : l[k]? = some c) (hc : f c = false) : l.all f = false := by
  rw [List.all_eq_false]
  exact ⟨c, List.mem_of_getElem? h, by simp [hc]⟩
theorem splitP_9 {r : List UInt8} (h : ¬ 47 :: r = [47]) (hc : 4 < (wordsC 47 r).length ∨ (wordsC 47 r).all nameB = false) : splitP (47 :: r) = ([], 9) := by
  rw [splitP, if_neg h]
  simp only [if_true]
  rw [if_neg]
  rintro ⟨h1, h2⟩
  rcases hc with hc | hc
  · omega
  · rw [h2] at hc; cases hc
theorem splitP_0 {r : List UInt8} (h : ¬ 47 :: r = [47]) (h1 : (wordsC 47 r).length ≤ 4) (h2 : (wordsC 47 r).all nameB = true) : splitP (47 :: r) = (wordsC 47 r, 0) := by
  rw [splitP, if_neg h]
  simp only [if_true]
  rw [if_pos ⟨h1, h2⟩]
theorem splitP_b {b : UInt8} {r : List UInt8} (h : ¬ b = 47) : splitP (b :: r) = ([], 9) := by
  rw [splitP, if_neg (by simp [h])]
  simp only [if_neg h]
theorem pathSplit_ok (p : List UInt8) (hp : p.length ≤ 100000) : FnC Tryz.prog 32 [.d (.st p)] (tupP (splitP p)) := by
  refine FnC.intro ti_ok Tryz.func32 rfl Tryz.ntmps32 Tryz.call32 rfl (Nat.le_of_ble_eq_true rfl) rfl ?_
  by_cases h1 : p = [47]
  · subst h1
    (repeat' ((conv => whnf); first | (with_reducible first | refine Spl.tt ?_ | refine Spl.ff ?_) | (with_reducible first | refine draw_auto ti_ok mixed (by decide +kernel) ?_ | refine g_i64 ?_ | refine g_u64 ?_ | refine g_u8 ?_ | refine g_iq ?_ | refine g_uq ?_ | refine g_rem ?_ | refine LetN.mk ?_ | refine g_hm ?_ | refine g_hb ?_ | refine g_lit ?_ | refine g_nm8 (fun x hx hu => ?_) | refine g_n8 (fun x hx hu => ?_) | refine g_b8 (fun x hx hu => ?_) | refine g_nm (fun x hx => ?_) | refine g_im (fun x hx => ?_) | refine g_n (fun x hx => ?_) | refine g_b (fun x hx => ?_) | refine g_and ?_ | refine g_c ?_ | refine Both.mk ?_ ?_ | refine NilS.ts ?_ | refine LetE.now ?_ | refine AtD.now ?_ | refine LetC.now ?_ | refine g_some ?_ | refine g_yk ?_ | refine g_nk ?_ | refine g_y ?_ | refine g_f ?_ | refine AtA.mk' ?_ | refine Spl.pd (fun h => ?_) (fun h => ?_) | refine Spl.peq (fun h => ?_) (fun h => ?_) | refine Spl.pne (fun h => ?_) (fun h => ?_) | refine Spl.seq (fun h => ?_) (fun h => ?_) | refine Spl.sne (fun h => ?_) (fun h => ?_) | refine Spl.nt ?_ | refine Spl.mk (fun h => ?_) (fun h => ?_))))
    rfl
  match p with
  | [] =>
    have hsp := split_ok 47 [] (by simp)
    (repeat' ((conv => whnf); first | (with_reducible first | refine Spl.tt ?_ | refine Spl.ff ?_) | refine CallE.con ⟨_, cutP_0 [] (by simp), ?_⟩ | refine CallE.con ⟨_, hsp, ?_⟩ | (with_reducible first | refine draw_auto ti_ok mixed (by decide +kernel) ?_ | refine g_i64 ?_ | refine g_u64 ?_ | refine g_u8 ?_ | refine g_iq ?_ | refine g_uq ?_ | refine g_rem ?_ | refine LetN.mk ?_ | refine g_hm ?_ | refine g_hb ?_ | refine g_lit ?_ | refine g_nm8 (fun x hx hu => ?_) | refine g_n8 (fun x hx hu => ?_) | refine g_b8 (fun x hx hu => ?_) | refine g_nm (fun x hx => ?_) | refine g_im (fun x hx => ?_) | refine g_n (fun x hx => ?_) | refine g_b (fun x hx => ?_) | refine g_and ?_ | refine g_c ?_ | refine Both.mk ?_ ?_ | refine NilS.ts ?_ | refine LetE.now ?_ | refine AtD.now ?_ | refine LetC.now ?_ | refine g_some ?_ | refine g_yk ?_ | refine g_nk ?_ | refine g_y ?_ | refine g_f ?_ | refine AtA.mk' ?_ | refine Spl.pd (fun h => ?_) (fun h => ?_) | refine Spl.peq (fun h => ?_) (fun h => ?_) | refine Spl.pne (fun h => ?_) (fun h => ?_) | refine Spl.seq (fun h => ?_) (fun h => ?_) | refine Spl.sne (fun h => ?_) (fun h => ?_) | refine Spl.nt ?_ | refine Spl.mk (fun h => ?_) (fun h => ?_))))
    rfl
  | b :: r =>
    by_cases hb : b = 47
    · subst hb
      have hsp := split_ok 47 r (by simp at hp; omega)
      (repeat' ((conv => whnf); first | (with_reducible first | refine Spl.tt ?_ | refine Spl.ff ?_) | refine CallE.con ⟨_, cutP_1 r, ?_⟩ | refine CallE.con ⟨_, hsp, ?_⟩ | with_reducible refine CallI.inl ti_ok i54 rfl ?_ | with_reducible refine CallI.inl ti_ok i70 rfl ?_ | (with_reducible first | refine draw_auto ti_ok mixed (by decide +kernel) ?_ | refine g_i64 ?_ | refine g_u64 ?_ | refine g_u8 ?_ | refine g_iq ?_ | refine g_uq ?_ | refine g_rem ?_ | refine LetN.mk ?_ | refine g_hm ?_ | refine g_hb ?_ | refine g_lit ?_ | refine g_nm8 (fun x hx hu => ?_) | refine g_n8 (fun x hx hu => ?_) | refine g_b8 (fun x hx hu => ?_) | refine g_nm (fun x hx => ?_) | refine g_im (fun x hx => ?_) | refine g_n (fun x hx => ?_) | refine g_b (fun x hx => ?_) | refine g_and ?_ | refine g_c ?_ | refine Both.mk ?_ ?_ | refine NilS.ts ?_ | refine LetE.now ?_ | refine AtD.now ?_ | refine LetC.now ?_ | refine g_some ?_ | refine g_yk ?_ | refine g_nk ?_ | refine g_y ?_ | refine g_f ?_ | refine AtA.mk' ?_ | refine Spl.pd (fun h => ?_) (fun h => ?_) | refine Spl.peq (fun h => ?_) (fun h => ?_) | refine Spl.pne (fun h => ?_) (fun h => ?_) | refine Spl.seq (fun h => ?_) (fun h => ?_) | refine Spl.sne (fun h => ?_) (fun h => ?_) | refine Spl.nt ?_ | refine Spl.mk (fun h => ?_) (fun h => ?_))))
      · have hl4 : 4 < (wordsC 47 r).length := by simp at h; omega
        exact (congrArg tupP (splitP_9 h1 (.inl hl4))).symm
      have hl4 : (wordsC 47 r).length ≤ 4 := by simp at h; omega
      generalize hl : wordsC 47 r = l at *
      refine loop_mem0 ti_ok (fun k : Nat => k ≤ l.length ∧ (l.take k).all nameB = true) (fun k => [(0, .d (.fs 1 (l.map stL))), (1, .fn (.func 55) [] []), (7, .d (.it .i64 l.length)), (8, .d (.it .i64 k))]) (fun k => l.length - k) 0 ⟨Nat.zero_le _, rfl⟩ ⟨rfl, rfl, it_eq (by simp), rfl, trivial⟩ rfl ?_
      intro k ⟨hk, ha⟩
      (repeat' ((conv => whnf); first | (with_reducible first | refine Spl.tt ?_ | refine Spl.ff ?_) | refine CallE.con ⟨_, name_ok x, ?_⟩ | with_reducible refine CallI.inl ti_ok i55 rfl ?_ | (with_reducible first | refine draw_auto ti_ok mixed (by decide +kernel) ?_ | refine g_i64 ?_ | refine g_u64 ?_ | refine g_u8 ?_ | refine g_iq ?_ | refine g_uq ?_ | refine g_rem ?_ | refine LetN.mk ?_ | refine g_hm ?_ | refine g_hb ?_ | refine g_lit ?_ | refine g_nm8 (fun x hx hu => ?_) | refine g_n8 (fun x hx hu => ?_) | refine g_b8 (fun x hx hu => ?_) | refine g_nm (fun x hx => ?_) | refine g_im (fun x hx => ?_) | refine g_n (fun x hx => ?_) | refine g_b (fun x hx => ?_) | refine g_and ?_ | refine g_c ?_ | refine Both.mk ?_ ?_ | refine NilS.ts ?_ | refine LetE.now ?_ | refine AtD.now ?_ | refine LetC.now ?_ | refine g_some ?_ | refine g_yk ?_ | refine g_nk ?_ | refine g_y ?_ | refine g_f ?_ | refine AtA.mk' ?_ | refine Spl.pd (fun h => ?_) (fun h => ?_) | refine Spl.peq (fun h => ?_) (fun h => ?_) | refine Spl.pne (fun h => ?_) (fun h => ?_) | refine Spl.seq (fun h => ?_) (fun h => ?_) | refine Spl.sne (fun h => ?_) (fun h => ?_) | refine Spl.nt ?_ | refine Spl.mk (fun h => ?_) (fun h => ?_))))
      · refine againM0 (k + 1) ⟨by omega, by rw [all_snocX hx, ha]; simpa using h⟩ (by dsimp only; omega) (And.intro rfl (And.intro rfl (And.intro rfl (And.intro rfl trivial)))) ?_ rfl
        (repeat (first | exact trivial | refine And.intro rfl ?_))
      · exact (congrArg tupP (splitP_9 h1 (.inr (by rw [hl]; exact not_allX hx (by simpa using h))))).symm
      · have hkl : k = l.length := by omega
        rw [hkl, List.take_length] at ha
        refine Eq.trans ?_ (congrArg tupP (splitP_0 h1 (by rw [hl]; exact hl4) (by rw [hl]; exact ha))).symm
        rw [hl]; rfl
    · have hsp := split_ok 47 (b :: r) (by simp at hp ⊢; omega)
      (repeat' ((conv => whnf); first | (with_reducible first | refine Spl.tt ?_ | refine Spl.ff ?_) | refine CallE.con ⟨_, cutP_0 (b :: r) (by simpa using hb), ?_⟩ | refine CallE.con ⟨_, hsp, ?_⟩ | (with_reducible first | refine draw_auto ti_ok mixed (by decide +kernel) ?_ | refine g_i64 ?_ | refine g_u64 ?_ | refine g_u8 ?_ | refine g_iq ?_ | refine g_uq ?_ | refine g_rem ?_ | refine LetN.mk ?_ | refine g_hm ?_ | refine g_hb ?_ | refine g_lit ?_ | refine g_nm8 (fun x hx hu => ?_) | refine g_n8 (fun x hx hu => ?_) | refine g_b8 (fun x hx hu => ?_) | refine g_nm (fun x hx => ?_) | refine g_im (fun x hx => ?_) | refine g_n (fun x hx => ?_) | refine g_b (fun x hx => ?_) | refine g_and ?_ | refine g_c ?_ | refine Both.mk ?_ ?_ | refine NilS.ts ?_ | refine LetE.now ?_ | refine AtD.now ?_ | refine LetC.now ?_ | refine g_some ?_ | refine g_yk ?_ | refine g_nk ?_ | refine g_y ?_ | refine g_f ?_ | refine AtA.mk' ?_ | refine Spl.pd (fun h => ?_) (fun h => ?_) | refine Spl.peq (fun h => ?_) (fun h => ?_) | refine Spl.pne (fun h => ?_) (fun h => ?_) | refine Spl.seq (fun h => ?_) (fun h => ?_) | refine Spl.sne (fun h => ?_) (fun h => ?_) | refine Spl.nt ?_ | refine Spl.mk (fun h => ?_) (fun h => ?_))))
      exact (congrArg tupP (splitP_b hb)).symm
end Go.Proofs.YtfpcclakpklghaaGreatDoor

/- Sectors, inodes, entries as data. Conditions: none. -/
namespace Go.Proofs.YtfpcclakpklghaaGreatDoor
open Go.Sy
set_option maxRecDepth 100000
set_option linter.all false
def encS (s : List UInt8) : List D := s.map (fun b => .it .u8 b.toNat)
def zeroS : List UInt8 := List.replicate 32 0
theorem encS_len (s : List UInt8) : (encS s).length = s.length := List.length_map ..
theorem eqS : ∀ (s t : List UInt8), s.length = t.length → eqDs (encS s) (encS t) = decide (s = t)
  | [], [], _ => rfl
  | [], b :: t, h => by cases h
  | a :: s, [], h => by cases h
  | a :: s, b :: t, h => by
    have ih := eqS s t (by simpa using h)
    show (eqD (.it .u8 a.toNat) (.it .u8 b.toNat) && eqDs (encS s) (encS t)) = _
    rw [ih, Bool.eq_iff_iff]
    simp only [eqD, Bool.and_eq_true, beq_iff_eq, decide_eq_true_eq, List.cons.injEq]
    refine and_congr_left' ⟨fun h => UInt8.toNat.inj (by omega), fun h => by rw [h]⟩
theorem likeS : ∀ (s t : List UInt8), s.length = t.length → likes (encS s) (encS t) = true
  | [], [], _ => rfl
  | [], b :: t, h => by cases h
  | a :: s, [], h => by cases h
  | a :: s, b :: t, h => by
    have ih := likeS s t (by simpa using h)
    show (likeD (.it .u8 a.toNat) (.it .u8 b.toNat) && likes (encS s) (encS t)) = true
    rw [ih]; rfl
theorem likeSS (s t : List UInt8) (hs : s.length = 32) (ht : t.length = 32) : (true && (likes (encS zeroS) (encS s) && likes (encS zeroS) (encS t))) = true := by
  rw [likeS _ _ (by rw [hs]; rfl), likeS _ _ (by rw [ht]; rfl)]; rfl
theorem allD_map : ∀ (l : List D), Sy.allD (l.map AV.d) = some l
  | [] => rfl
  | x :: l => by show (match Sy.allD (l.map AV.d) with | some l => some (x :: l) | none => none) = _; rw [allD_map l]
theorem ld_sec {ty : Ty} (ha : ty.kd.agg = true) (hz : ty.size = 32) {s : List UInt8} (hs : s.length = 32) : ldA ty 0 ((encS s).map AV.d) = .dg 32 (encS s) := by
  unfold ldA
  rw [ha, cond_true, hz, List.drop_zero, List.take_of_length_le (by rw [List.length_map, encS_len, hs]; exact Nat.le_refl _)]
  unfold mkAg
  rw [allD_map]
theorem ld_byte {ty : Ty} (ha : ty.kd.agg = false) {s : List UInt8} {k : Nat} {b : UInt8} (hb : s[k]? = some b) : ldA ty k ((encS s).map AV.d) = .d (.it .u8 b.toNat) := by
  unfold ldA
  rw [ha, cond_false, List.getD_eq_getElem?_getD, List.getElem?_map, encS, List.getElem?_map, hb]; rfl
theorem zero_ok (s : List UInt8) (hs : s.length = 32) : FnC Tryz.prog 45 [.dg 32 (encS s)] (.d (.bl (decide (s = zeroS)))) := by
  refine FnC.intro ti_ok Tryz.func45 rfl Tryz.ntmps45 Tryz.call45 rfl (Nat.le_of_ble_eq_true rfl) rfl ?_
  (repeat' ((conv => whnf); first | (with_reducible first | refine Spl.tt ?_ | refine Spl.ff ?_) | refine AtA.eq (ld_sec rfl rfl hs) ?_ | refine cond_tt (likeSS s zeroS hs rfl) ?_ | (with_reducible first | refine draw_auto ti_ok mixed (by decide +kernel) ?_ | refine g_i64 ?_ | refine g_u64 ?_ | refine g_u8 ?_ | refine g_iq ?_ | refine g_uq ?_ | refine g_rem ?_ | refine LetN.mk ?_ | refine g_hm ?_ | refine g_hb ?_ | refine g_lit ?_ | refine g_nm8 (fun x hx hu => ?_) | refine g_n8 (fun x hx hu => ?_) | refine g_b8 (fun x hx hu => ?_) | refine g_nm (fun x hx => ?_) | refine g_im (fun x hx => ?_) | refine g_n (fun x hx => ?_) | refine g_b (fun x hx => ?_) | refine g_and ?_ | refine g_c ?_ | refine Both.mk ?_ ?_ | refine NilS.ts ?_ | refine LetE.now ?_ | refine AtD.now ?_ | refine LetC.now ?_ | refine g_some ?_ | refine g_yk ?_ | refine g_nk ?_ | refine g_y ?_ | refine g_f ?_ | refine AtA.mk' ?_ | refine Spl.pd (fun h => ?_) (fun h => ?_) | refine Spl.peq (fun h => ?_) (fun h => ?_) | refine Spl.pne (fun h => ?_) (fun h => ?_) | refine Spl.seq (fun h => ?_) (fun h => ?_) | refine Spl.sne (fun h => ?_) (fun h => ?_) | refine Spl.nt ?_ | refine Spl.mk (fun h => ?_) (fun h => ?_))))
  exact bl_eq (eqS s zeroS (by rw [hs]; rfl))
theorem fits_ok (a n : Int) : FnC Tryz.prog 62 [.d (.it .i64 a), .d (.it .i64 n)] (.d (.bl (decide (0 ≤ a ∧ a ≤ 32 ∧ 0 ≤ n ∧ n ≤ 32 - a)))) := by
  refine FnC.intro ti_ok Tryz.func62 rfl Tryz.ntmps62 Tryz.call62 rfl (Nat.le_of_ble_eq_true rfl) rfl ?_
  by_cases h0 : 0 ≤ a ∧ a ≤ 32
  all_goals (repeat' ((conv => whnf); first | (with_reducible first | refine Spl.tt ?_ | refine Spl.ff ?_) | (with_reducible first | refine draw_auto ti_ok mixed (by decide +kernel) ?_ | refine g_i64 ?_ | refine g_u64 ?_ | refine g_u8 ?_ | refine g_iq ?_ | refine g_uq ?_ | refine g_rem ?_ | refine LetN.mk ?_ | refine g_hm ?_ | refine g_hb ?_ | refine g_lit ?_ | refine g_nm8 (fun x hx hu => ?_) | refine g_n8 (fun x hx hu => ?_) | refine g_b8 (fun x hx hu => ?_) | refine g_nm (fun x hx => ?_) | refine g_im (fun x hx => ?_) | refine g_n (fun x hx => ?_) | refine g_b (fun x hx => ?_) | refine g_and ?_ | refine g_c ?_ | refine Both.mk ?_ ?_ | refine NilS.ts ?_ | refine LetE.now ?_ | refine AtD.now ?_ | refine LetC.now ?_ | refine g_some ?_ | refine g_yk ?_ | refine g_nk ?_ | refine g_y ?_ | refine g_f ?_ | refine AtA.mk' ?_ | refine Spl.pd (fun h => ?_) (fun h => ?_) | refine Spl.peq (fun h => ?_) (fun h => ?_) | refine Spl.pne (fun h => ?_) (fun h => ?_) | refine Spl.seq (fun h => ?_) (fun h => ?_) | refine Spl.sne (fun h => ?_) (fun h => ?_) | refine Spl.nt ?_ | refine Spl.mk (fun h => ?_) (fun h => ?_))))
  all_goals refine bl_eq ?_
  all_goals first | (rw [eq_comm]; exact decide_eq_false (by omega)) | (rw [Bool.eq_iff_iff]; simp; omega)
end Go.Proofs.YtfpcclakpklghaaGreatDoor

/- Inodes: may they be? Conditions: none. -/
namespace Go.Proofs.YtfpcclakpklghaaGreatDoor
open Go.Sy
set_option maxRecDepth 100000
set_option linter.all false
structure Ino where
  k : Int
  z : Int
  b0 : Int
  b1 : Int
  b2 : Int
  b3 : Int
deriving DecidableEq
def encI (x : Ino) : List D := [.it .i64 x.k, .it .i64 x.z, .it .i64 x.b0, .it .i64 x.b1, .it .i64 x.b2, .it .i64 x.b3]
def RI (x : Ino) : Prop := (x.k = 0 ∨ x.k = 2) ∧ x.z = 0 ∧ x.b0 = 0 ∧ x.b1 = 0 ∧ x.b2 = 0 ∧ x.b3 = 0 ∨
  x.k = 1 ∧ 0 ≤ x.z ∧ x.z ≤ 128 ∧ (0 < x.z → 1 ≤ x.b0 ∧ x.b0 ≤ 24) ∧ (x.z ≤ 0 → x.b0 = 0) ∧ (32 < x.z → 1 ≤ x.b1 ∧ x.b1 ≤ 24 ∧ x.b1 ≠ x.b0) ∧ (x.z ≤ 32 → x.b1 = 0) ∧
  (64 < x.z → 1 ≤ x.b2 ∧ x.b2 ≤ 24 ∧ x.b2 ≠ x.b0 ∧ x.b2 ≠ x.b1) ∧ (x.z ≤ 64 → x.b2 = 0) ∧ (96 < x.z → 1 ≤ x.b3 ∧ x.b3 ≤ 24 ∧ x.b3 ≠ x.b0 ∧ x.b3 ≠ x.b1 ∧ x.b3 ≠ x.b2) ∧ (x.z ≤ 96 → x.b3 = 0)
instance (x : Ino) : Decidable (RI x) := by unfold RI; infer_instance
theorem need_ok (z : Int) (h0 : 0 ≤ z) (h1 : z ≤ 128) : FnC Tryz.prog 84 [.d (.it .i64 z)] (.d (.it .i64 ((z + 31) / 32))) := by
  refine FnC.intro ti_ok Tryz.func84 rfl Tryz.ntmps84 Tryz.call84 rfl (Nat.le_of_ble_eq_true rfl) rfl ?_
  (repeat' ((conv => whnf); first | (with_reducible first | refine Spl.tt ?_ | refine Spl.ff ?_) | (with_reducible first | refine draw_auto ti_ok mixed (by decide +kernel) ?_ | refine g_i64 ?_ | refine g_u64 ?_ | refine g_u8 ?_ | refine g_iq ?_ | refine g_uq ?_ | refine g_rem ?_ | refine LetN.mk ?_ | refine g_hm ?_ | refine g_hb ?_ | refine g_lit ?_ | refine g_nm8 (fun x hx hu => ?_) | refine g_n8 (fun x hx hu => ?_) | refine g_b8 (fun x hx hu => ?_) | refine g_nm (fun x hx => ?_) | refine g_im (fun x hx => ?_) | refine g_n (fun x hx => ?_) | refine g_b (fun x hx => ?_) | refine g_and ?_ | refine g_c ?_ | refine Both.mk ?_ ?_ | refine NilS.ts ?_ | refine LetE.now ?_ | refine AtD.now ?_ | refine LetC.now ?_ | refine g_some ?_ | refine g_yk ?_ | refine g_nk ?_ | refine g_y ?_ | refine g_f ?_ | refine AtA.mk' ?_ | refine Spl.pd (fun h => ?_) (fun h => ?_) | refine Spl.peq (fun h => ?_) (fun h => ?_) | refine Spl.pne (fun h => ?_) (fun h => ?_) | refine Spl.seq (fun h => ?_) (fun h => ?_) | refine Spl.sne (fun h => ?_) (fun h => ?_) | refine Spl.nt ?_ | refine Spl.mk (fun h => ?_) (fun h => ?_))))
  all_goals exact it_eq (by omega)
theorem refNeed_ok (z : Int) (h0 : 0 ≤ z) (h1 : z ≤ 128) : FnC Tryz.prog 90 [.d (.it .i64 z)] (.d (.it .i64 ((z + 31) / 32))) := by
  refine FnC.intro ti_ok Tryz.func90 rfl Tryz.ntmps90 Tryz.call90 rfl (Nat.le_of_ble_eq_true rfl) rfl ?_
  (repeat' ((conv => whnf); first | (with_reducible first | refine Spl.tt ?_ | refine Spl.ff ?_) | (with_reducible first | refine draw_auto ti_ok mixed (by decide +kernel) ?_ | refine g_i64 ?_ | refine g_u64 ?_ | refine g_u8 ?_ | refine g_iq ?_ | refine g_uq ?_ | refine g_rem ?_ | refine LetN.mk ?_ | refine g_hm ?_ | refine g_hb ?_ | refine g_lit ?_ | refine g_nm8 (fun x hx hu => ?_) | refine g_n8 (fun x hx hu => ?_) | refine g_b8 (fun x hx hu => ?_) | refine g_nm (fun x hx => ?_) | refine g_im (fun x hx => ?_) | refine g_n (fun x hx => ?_) | refine g_b (fun x hx => ?_) | refine g_and ?_ | refine g_c ?_ | refine Both.mk ?_ ?_ | refine NilS.ts ?_ | refine LetE.now ?_ | refine AtD.now ?_ | refine LetC.now ?_ | refine g_some ?_ | refine g_yk ?_ | refine g_nk ?_ | refine g_y ?_ | refine g_f ?_ | refine AtA.mk' ?_ | refine Spl.pd (fun h => ?_) (fun h => ?_) | refine Spl.peq (fun h => ?_) (fun h => ?_) | refine Spl.pne (fun h => ?_) (fun h => ?_) | refine Spl.seq (fun h => ?_) (fun h => ?_) | refine Spl.sne (fun h => ?_) (fun h => ?_) | refine Spl.nt ?_ | refine Spl.mk (fun h => ?_) (fun h => ?_))))
  refine loop_rule ti_ok (fun n : Nat => n ≤ 4 ∧ (n = 0 ∨ 32 * ((n : Int) - 1) < z)) (fun n => ⟨[(0, .d (.it .i64 z)), (3, .d (.it .i64 n))], [], 0⟩) (fun n => 5 - n) 0 ⟨Nat.zero_le _, .inl rfl⟩ ⟨⟨rfl, rfl, trivial⟩, trivial, rfl⟩ ?_
  intro n ⟨n1, n2⟩
  (repeat' ((conv => whnf); first | (with_reducible first | refine Spl.tt ?_ | refine Spl.ff ?_) | (with_reducible first | refine draw_auto ti_ok mixed (by decide +kernel) ?_ | refine g_i64 ?_ | refine g_u64 ?_ | refine g_u8 ?_ | refine g_iq ?_ | refine g_uq ?_ | refine g_rem ?_ | refine LetN.mk ?_ | refine g_hm ?_ | refine g_hb ?_ | refine g_lit ?_ | refine g_nm8 (fun x hx hu => ?_) | refine g_n8 (fun x hx hu => ?_) | refine g_b8 (fun x hx hu => ?_) | refine g_nm (fun x hx => ?_) | refine g_im (fun x hx => ?_) | refine g_n (fun x hx => ?_) | refine g_b (fun x hx => ?_) | refine g_and ?_ | refine g_c ?_ | refine Both.mk ?_ ?_ | refine NilS.ts ?_ | refine LetE.now ?_ | refine AtD.now ?_ | refine LetC.now ?_ | refine g_some ?_ | refine g_yk ?_ | refine g_nk ?_ | refine g_y ?_ | refine g_f ?_ | refine AtA.mk' ?_ | refine Spl.pd (fun h => ?_) (fun h => ?_) | refine Spl.peq (fun h => ?_) (fun h => ?_) | refine Spl.pne (fun h => ?_) (fun h => ?_) | refine Spl.seq (fun h => ?_) (fun h => ?_) | refine Spl.sne (fun h => ?_) (fun h => ?_) | refine Spl.nt ?_ | refine Spl.mk (fun h => ?_) (fun h => ?_))))
  all_goals first | exact it_eq (by omega) | refine again (n + 1) ⟨by omega, by omega⟩ (by dsimp only; omega) (And.intro rfl (And.intro (it_eq (by omega)) trivial)) trivial rfl
def RIu (x : Ino) (i : Nat) : Prop := x.k = 1 ∧ 0 ≤ x.z ∧ x.z ≤ 128 ∧ (1 ≤ i → (0 < x.z → 1 ≤ x.b0 ∧ x.b0 ≤ 24) ∧ (x.z ≤ 0 → x.b0 = 0)) ∧ (2 ≤ i → (32 < x.z → 1 ≤ x.b1 ∧ x.b1 ≤ 24 ∧ x.b1 ≠ x.b0) ∧ (x.z ≤ 32 → x.b1 = 0)) ∧
  (3 ≤ i → (64 < x.z → 1 ≤ x.b2 ∧ x.b2 ≤ 24 ∧ x.b2 ≠ x.b0 ∧ x.b2 ≠ x.b1) ∧ (x.z ≤ 64 → x.b2 = 0)) ∧ (4 ≤ i → (96 < x.z → 1 ≤ x.b3 ∧ x.b3 ≤ 24 ∧ x.b3 ≠ x.b0 ∧ x.b3 ≠ x.b1 ∧ x.b3 ≠ x.b2) ∧ (x.z ≤ 96 → x.b3 = 0))
theorem eqB4 (a b c d : Int) : eqDs [.it .i64 a, .it .i64 b, .it .i64 c, .it .i64 d] [.it .i64 0, .it .i64 0, .it .i64 0, .it .i64 0] = decide (a = 0 ∧ b = 0 ∧ c = 0 ∧ d = 0) := by
  rw [Bool.eq_iff_iff]; simp [eqDs, eqD]
theorem bl_of {e : Bool} {p : Prop} [Decidable p] (h : e = true ↔ p) : AV.d (.bl e) = AV.d (.bl (decide p)) := by
  have : e = decide p := by rw [Bool.eq_iff_iff, h, decide_eq_true_eq]
  rw [this]
theorem bl_ff {p : Prop} [Decidable p] (h : ¬ p) : AV.d (.bl false) = AV.d (.bl (decide p)) := by rw [decide_eq_false h]
theorem bl_tt {p : Prop} [Decidable p] (h : p) : AV.d (.bl true) = AV.d (.bl (decide p)) := by rw [decide_eq_true h]
theorem bl_dec {p q : Prop} [Decidable p] [Decidable q] (h : p ↔ q) : AV.d (.bl (decide p)) = AV.d (.bl (decide q)) := by
  have : decide p = decide q := by rw [Bool.eq_iff_iff, decide_eq_true_eq, decide_eq_true_eq, h]
  rw [this]
theorem bl_tr {a b : Bool} {v : AV} (h : a = b) (h2 : AV.d (.bl b) = v) : AV.d (.bl a) = v := by rw [h, h2]
set_option maxHeartbeats 2000000 in
theorem refRI_ok (x : Ino) : FnC Tryz.prog 61 [.dg 6 (encI x)] (.d (.bl (decide (RI x)))) := by
  refine FnC.intro ti_ok Tryz.func61 rfl Tryz.ntmps61 Tryz.call61 rfl (Nat.le_of_ble_eq_true rfl) rfl ?_
  (repeat' ((conv => whnf); first | (with_reducible first | refine Spl.tt ?_ | refine Spl.ff ?_) | (with_reducible first | refine draw_auto ti_ok mixed (by decide +kernel) ?_ | refine g_i64 ?_ | refine g_u64 ?_ | refine g_u8 ?_ | refine g_iq ?_ | refine g_uq ?_ | refine g_rem ?_ | refine LetN.mk ?_ | refine g_hm ?_ | refine g_hb ?_ | refine g_lit ?_ | refine g_nm8 (fun x hx hu => ?_) | refine g_n8 (fun x hx hu => ?_) | refine g_b8 (fun x hx hu => ?_) | refine g_nm (fun x hx => ?_) | refine g_im (fun x hx => ?_) | refine g_n (fun x hx => ?_) | refine g_b (fun x hx => ?_) | refine g_and ?_ | refine g_c ?_ | refine Both.mk ?_ ?_ | refine NilS.ts ?_ | refine LetE.now ?_ | refine AtD.now ?_ | refine LetC.now ?_ | refine g_some ?_ | refine g_yk ?_ | refine g_nk ?_ | refine g_y ?_ | refine g_f ?_ | refine AtA.mk' ?_ | refine Spl.pd (fun h => ?_) (fun h => ?_) | refine Spl.peq (fun h => ?_) (fun h => ?_) | refine Spl.pne (fun h => ?_) (fun h => ?_) | refine Spl.seq (fun h => ?_) (fun h => ?_) | refine Spl.sne (fun h => ?_) (fun h => ?_) | refine Spl.nt ?_ | refine Spl.mk (fun h => ?_) (fun h => ?_))))
  all_goals first
    | exact bl_ff (by unfold RI; omega)
    | exact bl_tr (eqB4 _ _ _ _) (bl_dec (by unfold RI; omega))
    | skip
  refine loop_rule ti_ok (fun i : Nat => i ≤ 4 ∧ RIu x i) (fun i => ⟨[(1, .ptr 0 0), (3, .d (.it .i64 i))], [(0, .cells 6 ((encI x).map .d))], 1⟩) (fun n => 5 - n) 0 ⟨Nat.zero_le _, by unfold RIu; omega⟩ ⟨⟨rfl, rfl, trivial⟩, ⟨rfl, trivial⟩, rfl⟩ ?_
  intro i ⟨i1, i2⟩
  unfold RIu at i2
  have hn := refNeed_ok x.z (by omega) (by omega)
  match i, i1, i2 with
  | 0, _, i2 =>
    (repeat' ((conv => whnf); first | (with_reducible first | refine Spl.tt ?_ | refine Spl.ff ?_) | refine CallE.con ⟨_, hn, ?_⟩ | with_reducible refine LoopS.unroll ti_ok 4 ?_ | (with_reducible first | refine draw_auto ti_ok mixed (by decide +kernel) ?_ | refine g_i64 ?_ | refine g_u64 ?_ | refine g_u8 ?_ | refine g_iq ?_ | refine g_uq ?_ | refine g_rem ?_ | refine LetN.mk ?_ | refine g_hm ?_ | refine g_hb ?_ | refine g_lit ?_ | refine g_nm8 (fun x hx hu => ?_) | refine g_n8 (fun x hx hu => ?_) | refine g_b8 (fun x hx hu => ?_) | refine g_nm (fun x hx => ?_) | refine g_im (fun x hx => ?_) | refine g_n (fun x hx => ?_) | refine g_b (fun x hx => ?_) | refine g_and ?_ | refine g_c ?_ | refine Both.mk ?_ ?_ | refine NilS.ts ?_ | refine LetE.now ?_ | refine AtD.now ?_ | refine LetC.now ?_ | refine g_some ?_ | refine g_yk ?_ | refine g_nk ?_ | refine g_y ?_ | refine g_f ?_ | refine AtA.mk' ?_ | refine Spl.pd (fun h => ?_) (fun h => ?_) | refine Spl.peq (fun h => ?_) (fun h => ?_) | refine Spl.pne (fun h => ?_) (fun h => ?_) | refine Spl.seq (fun h => ?_) (fun h => ?_) | refine Spl.sne (fun h => ?_) (fun h => ?_) | refine Spl.nt ?_ | refine Spl.mk (fun h => ?_) (fun h => ?_))))
    all_goals first
      | exact bl_ff (by unfold RI; omega)
      | exact bl_tt (by unfold RI; omega)
      | refine again 1 ⟨by omega, by unfold RIu; omega⟩ (by dsimp only; omega) (And.intro rfl (And.intro rfl trivial)) (And.intro rfl trivial) rfl
  | 1, _, i2 =>
    (repeat' ((conv => whnf); first | (with_reducible first | refine Spl.tt ?_ | refine Spl.ff ?_) | refine CallE.con ⟨_, hn, ?_⟩ | with_reducible refine LoopS.unroll ti_ok 4 ?_ | (with_reducible first | refine draw_auto ti_ok mixed (by decide +kernel) ?_ | refine g_i64 ?_ | refine g_u64 ?_ | refine g_u8 ?_ | refine g_iq ?_ | refine g_uq ?_ | refine g_rem ?_ | refine LetN.mk ?_ | refine g_hm ?_ | refine g_hb ?_ | refine g_lit ?_ | refine g_nm8 (fun x hx hu => ?_) | refine g_n8 (fun x hx hu => ?_) | refine g_b8 (fun x hx hu => ?_) | refine g_nm (fun x hx => ?_) | refine g_im (fun x hx => ?_) | refine g_n (fun x hx => ?_) | refine g_b (fun x hx => ?_) | refine g_and ?_ | refine g_c ?_ | refine Both.mk ?_ ?_ | refine NilS.ts ?_ | refine LetE.now ?_ | refine AtD.now ?_ | refine LetC.now ?_ | refine g_some ?_ | refine g_yk ?_ | refine g_nk ?_ | refine g_y ?_ | refine g_f ?_ | refine AtA.mk' ?_ | refine Spl.pd (fun h => ?_) (fun h => ?_) | refine Spl.peq (fun h => ?_) (fun h => ?_) | refine Spl.pne (fun h => ?_) (fun h => ?_) | refine Spl.seq (fun h => ?_) (fun h => ?_) | refine Spl.sne (fun h => ?_) (fun h => ?_) | refine Spl.nt ?_ | refine Spl.mk (fun h => ?_) (fun h => ?_))))
    all_goals first
      | exact bl_ff (by unfold RI; omega)
      | exact bl_tt (by unfold RI; omega)
      | refine again 2 ⟨by omega, by unfold RIu; omega⟩ (by dsimp only; omega) (And.intro rfl (And.intro rfl trivial)) (And.intro rfl trivial) rfl
  | 2, _, i2 =>
    (repeat' ((conv => whnf); first | (with_reducible first | refine Spl.tt ?_ | refine Spl.ff ?_) | refine CallE.con ⟨_, hn, ?_⟩ | with_reducible refine LoopS.unroll ti_ok 4 ?_ | (with_reducible first | refine draw_auto ti_ok mixed (by decide +kernel) ?_ | refine g_i64 ?_ | refine g_u64 ?_ | refine g_u8 ?_ | refine g_iq ?_ | refine g_uq ?_ | refine g_rem ?_ | refine LetN.mk ?_ | refine g_hm ?_ | refine g_hb ?_ | refine g_lit ?_ | refine g_nm8 (fun x hx hu => ?_) | refine g_n8 (fun x hx hu => ?_) | refine g_b8 (fun x hx hu => ?_) | refine g_nm (fun x hx => ?_) | refine g_im (fun x hx => ?_) | refine g_n (fun x hx => ?_) | refine g_b (fun x hx => ?_) | refine g_and ?_ | refine g_c ?_ | refine Both.mk ?_ ?_ | refine NilS.ts ?_ | refine LetE.now ?_ | refine AtD.now ?_ | refine LetC.now ?_ | refine g_some ?_ | refine g_yk ?_ | refine g_nk ?_ | refine g_y ?_ | refine g_f ?_ | refine AtA.mk' ?_ | refine Spl.pd (fun h => ?_) (fun h => ?_) | refine Spl.peq (fun h => ?_) (fun h => ?_) | refine Spl.pne (fun h => ?_) (fun h => ?_) | refine Spl.seq (fun h => ?_) (fun h => ?_) | refine Spl.sne (fun h => ?_) (fun h => ?_) | refine Spl.nt ?_ | refine Spl.mk (fun h => ?_) (fun h => ?_))))
    all_goals first
      | exact bl_ff (by unfold RI; omega)
      | exact bl_tt (by unfold RI; omega)
      | refine again 3 ⟨by omega, by unfold RIu; omega⟩ (by dsimp only; omega) (And.intro rfl (And.intro rfl trivial)) (And.intro rfl trivial) rfl
  | 3, _, i2 =>
    (repeat' ((conv => whnf); first | (with_reducible first | refine Spl.tt ?_ | refine Spl.ff ?_) | refine CallE.con ⟨_, hn, ?_⟩ | with_reducible refine LoopS.unroll ti_ok 4 ?_ | (with_reducible first | refine draw_auto ti_ok mixed (by decide +kernel) ?_ | refine g_i64 ?_ | refine g_u64 ?_ | refine g_u8 ?_ | refine g_iq ?_ | refine g_uq ?_ | refine g_rem ?_ | refine LetN.mk ?_ | refine g_hm ?_ | refine g_hb ?_ | refine g_lit ?_ | refine g_nm8 (fun x hx hu => ?_) | refine g_n8 (fun x hx hu => ?_) | refine g_b8 (fun x hx hu => ?_) | refine g_nm (fun x hx => ?_) | refine g_im (fun x hx => ?_) | refine g_n (fun x hx => ?_) | refine g_b (fun x hx => ?_) | refine g_and ?_ | refine g_c ?_ | refine Both.mk ?_ ?_ | refine NilS.ts ?_ | refine LetE.now ?_ | refine AtD.now ?_ | refine LetC.now ?_ | refine g_some ?_ | refine g_yk ?_ | refine g_nk ?_ | refine g_y ?_ | refine g_f ?_ | refine AtA.mk' ?_ | refine Spl.pd (fun h => ?_) (fun h => ?_) | refine Spl.peq (fun h => ?_) (fun h => ?_) | refine Spl.pne (fun h => ?_) (fun h => ?_) | refine Spl.seq (fun h => ?_) (fun h => ?_) | refine Spl.sne (fun h => ?_) (fun h => ?_) | refine Spl.nt ?_ | refine Spl.mk (fun h => ?_) (fun h => ?_))))
    all_goals first
      | exact bl_ff (by unfold RI; omega)
      | exact bl_tt (by unfold RI; omega)
      | refine again 4 ⟨by omega, by unfold RIu; omega⟩ (by dsimp only; omega) (And.intro rfl (And.intro rfl trivial)) (And.intro rfl trivial) rfl
  | 4, _, i2 =>
    (repeat' ((conv => whnf); first | (with_reducible first | refine Spl.tt ?_ | refine Spl.ff ?_) | refine CallE.con ⟨_, hn, ?_⟩ | with_reducible refine LoopS.unroll ti_ok 4 ?_ | (with_reducible first | refine draw_auto ti_ok mixed (by decide +kernel) ?_ | refine g_i64 ?_ | refine g_u64 ?_ | refine g_u8 ?_ | refine g_iq ?_ | refine g_uq ?_ | refine g_rem ?_ | refine LetN.mk ?_ | refine g_hm ?_ | refine g_hb ?_ | refine g_lit ?_ | refine g_nm8 (fun x hx hu => ?_) | refine g_n8 (fun x hx hu => ?_) | refine g_b8 (fun x hx hu => ?_) | refine g_nm (fun x hx => ?_) | refine g_im (fun x hx => ?_) | refine g_n (fun x hx => ?_) | refine g_b (fun x hx => ?_) | refine g_and ?_ | refine g_c ?_ | refine Both.mk ?_ ?_ | refine NilS.ts ?_ | refine LetE.now ?_ | refine AtD.now ?_ | refine LetC.now ?_ | refine g_some ?_ | refine g_yk ?_ | refine g_nk ?_ | refine g_y ?_ | refine g_f ?_ | refine AtA.mk' ?_ | refine Spl.pd (fun h => ?_) (fun h => ?_) | refine Spl.peq (fun h => ?_) (fun h => ?_) | refine Spl.pne (fun h => ?_) (fun h => ?_) | refine Spl.seq (fun h => ?_) (fun h => ?_) | refine Spl.sne (fun h => ?_) (fun h => ?_) | refine Spl.nt ?_ | refine Spl.mk (fun h => ?_) (fun h => ?_))))
    all_goals first
      | exact bl_ff (by unfold RI; omega)
      | exact bl_tt (by unfold RI; omega)
      | refine again 5 ⟨by omega, by unfold RIu; omega⟩ (by dsimp only; omega) (And.intro rfl (And.intro rfl trivial)) (And.intro rfl trivial) rfl
end Go.Proofs.YtfpcclakpklghaaGreatDoor

/- bits.Len of small numbers. Conditions: none. -/
namespace Go.Proofs.YtfpcclakpklghaaGreatDoor
open Go.Sy
set_option maxRecDepth 100000
set_option linter.all false
def lenN (n : Nat) : Int := if n = 0 then 0 else if n = 1 then 1 else if n < 4 then 2 else 3
theorem len64_ok (n : Nat) (hn : n ≤ 4) : FnC Tryz.prog 82 [.d (.it .u64 n)] (.d (.it .i64 (lenN n))) := by
  refine FnC.intro ti_ok Tryz.func82 rfl Tryz.ntmps82 Tryz.call82 rfl (Nat.le_of_ble_eq_true rfl) rfl ?_
  match n, hn with
  | 0, _ =>
    (repeat' ((conv => whnf); first | (with_reducible first | refine Spl.tt ?_ | refine Spl.ff ?_) | refine at_lit (x := (0 : UInt8)) (by decide +kernel) (by decide +kernel) ?_ | with_reducible refine LetI.eq 0 (by with_unfolding_all exact rfl) ?_ | (with_reducible first | refine draw_auto ti_ok mixed (by decide +kernel) ?_ | refine g_i64 ?_ | refine g_u64 ?_ | refine g_u8 ?_ | refine g_iq ?_ | refine g_uq ?_ | refine g_rem ?_ | refine LetN.mk ?_ | refine g_hm ?_ | refine g_hb ?_ | refine g_lit ?_ | refine g_nm8 (fun x hx hu => ?_) | refine g_n8 (fun x hx hu => ?_) | refine g_b8 (fun x hx hu => ?_) | refine g_nm (fun x hx => ?_) | refine g_im (fun x hx => ?_) | refine g_n (fun x hx => ?_) | refine g_b (fun x hx => ?_) | refine g_and ?_ | refine g_c ?_ | refine Both.mk ?_ ?_ | refine NilS.ts ?_ | refine LetE.now ?_ | refine AtD.now ?_ | refine LetC.now ?_ | refine g_some ?_ | refine g_yk ?_ | refine g_nk ?_ | refine g_y ?_ | refine g_f ?_ | refine AtA.mk' ?_ | refine Spl.pd (fun h => ?_) (fun h => ?_) | refine Spl.peq (fun h => ?_) (fun h => ?_) | refine Spl.pne (fun h => ?_) (fun h => ?_) | refine Spl.seq (fun h => ?_) (fun h => ?_) | refine Spl.sne (fun h => ?_) (fun h => ?_) | refine Spl.nt ?_ | refine Spl.mk (fun h => ?_) (fun h => ?_))))
    with_unfolding_all exact rfl
  | 1, _ =>
    (repeat' ((conv => whnf); first | (with_reducible first | refine Spl.tt ?_ | refine Spl.ff ?_) | refine at_lit (x := (1 : UInt8)) (by decide +kernel) (by decide +kernel) ?_ | with_reducible refine LetI.eq 1 (by with_unfolding_all exact rfl) ?_ | (with_reducible first | refine draw_auto ti_ok mixed (by decide +kernel) ?_ | refine g_i64 ?_ | refine g_u64 ?_ | refine g_u8 ?_ | refine g_iq ?_ | refine g_uq ?_ | refine g_rem ?_ | refine LetN.mk ?_ | refine g_hm ?_ | refine g_hb ?_ | refine g_lit ?_ | refine g_nm8 (fun x hx hu => ?_) | refine g_n8 (fun x hx hu => ?_) | refine g_b8 (fun x hx hu => ?_) | refine g_nm (fun x hx => ?_) | refine g_im (fun x hx => ?_) | refine g_n (fun x hx => ?_) | refine g_b (fun x hx => ?_) | refine g_and ?_ | refine g_c ?_ | refine Both.mk ?_ ?_ | refine NilS.ts ?_ | refine LetE.now ?_ | refine AtD.now ?_ | refine LetC.now ?_ | refine g_some ?_ | refine g_yk ?_ | refine g_nk ?_ | refine g_y ?_ | refine g_f ?_ | refine AtA.mk' ?_ | refine Spl.pd (fun h => ?_) (fun h => ?_) | refine Spl.peq (fun h => ?_) (fun h => ?_) | refine Spl.pne (fun h => ?_) (fun h => ?_) | refine Spl.seq (fun h => ?_) (fun h => ?_) | refine Spl.sne (fun h => ?_) (fun h => ?_) | refine Spl.nt ?_ | refine Spl.mk (fun h => ?_) (fun h => ?_))))
    with_unfolding_all exact rfl
  | 2, _ =>
    (repeat' ((conv => whnf); first | (with_reducible first | refine Spl.tt ?_ | refine Spl.ff ?_) | refine at_lit (x := (2 : UInt8)) (by decide +kernel) (by decide +kernel) ?_ | with_reducible refine LetI.eq 2 (by with_unfolding_all exact rfl) ?_ | (with_reducible first | refine draw_auto ti_ok mixed (by decide +kernel) ?_ | refine g_i64 ?_ | refine g_u64 ?_ | refine g_u8 ?_ | refine g_iq ?_ | refine g_uq ?_ | refine g_rem ?_ | refine LetN.mk ?_ | refine g_hm ?_ | refine g_hb ?_ | refine g_lit ?_ | refine g_nm8 (fun x hx hu => ?_) | refine g_n8 (fun x hx hu => ?_) | refine g_b8 (fun x hx hu => ?_) | refine g_nm (fun x hx => ?_) | refine g_im (fun x hx => ?_) | refine g_n (fun x hx => ?_) | refine g_b (fun x hx => ?_) | refine g_and ?_ | refine g_c ?_ | refine Both.mk ?_ ?_ | refine NilS.ts ?_ | refine LetE.now ?_ | refine AtD.now ?_ | refine LetC.now ?_ | refine g_some ?_ | refine g_yk ?_ | refine g_nk ?_ | refine g_y ?_ | refine g_f ?_ | refine AtA.mk' ?_ | refine Spl.pd (fun h => ?_) (fun h => ?_) | refine Spl.peq (fun h => ?_) (fun h => ?_) | refine Spl.pne (fun h => ?_) (fun h => ?_) | refine Spl.seq (fun h => ?_) (fun h => ?_) | refine Spl.sne (fun h => ?_) (fun h => ?_) | refine Spl.nt ?_ | refine Spl.mk (fun h => ?_) (fun h => ?_))))
    with_unfolding_all exact rfl
  | 3, _ =>
    (repeat' ((conv => whnf); first | (with_reducible first | refine Spl.tt ?_ | refine Spl.ff ?_) | refine at_lit (x := (2 : UInt8)) (by decide +kernel) (by decide +kernel) ?_ | with_reducible refine LetI.eq 2 (by with_unfolding_all exact rfl) ?_ | (with_reducible first | refine draw_auto ti_ok mixed (by decide +kernel) ?_ | refine g_i64 ?_ | refine g_u64 ?_ | refine g_u8 ?_ | refine g_iq ?_ | refine g_uq ?_ | refine g_rem ?_ | refine LetN.mk ?_ | refine g_hm ?_ | refine g_hb ?_ | refine g_lit ?_ | refine g_nm8 (fun x hx hu => ?_) | refine g_n8 (fun x hx hu => ?_) | refine g_b8 (fun x hx hu => ?_) | refine g_nm (fun x hx => ?_) | refine g_im (fun x hx => ?_) | refine g_n (fun x hx => ?_) | refine g_b (fun x hx => ?_) | refine g_and ?_ | refine g_c ?_ | refine Both.mk ?_ ?_ | refine NilS.ts ?_ | refine LetE.now ?_ | refine AtD.now ?_ | refine LetC.now ?_ | refine g_some ?_ | refine g_yk ?_ | refine g_nk ?_ | refine g_y ?_ | refine g_f ?_ | refine AtA.mk' ?_ | refine Spl.pd (fun h => ?_) (fun h => ?_) | refine Spl.peq (fun h => ?_) (fun h => ?_) | refine Spl.pne (fun h => ?_) (fun h => ?_) | refine Spl.seq (fun h => ?_) (fun h => ?_) | refine Spl.sne (fun h => ?_) (fun h => ?_) | refine Spl.nt ?_ | refine Spl.mk (fun h => ?_) (fun h => ?_))))
    with_unfolding_all exact rfl
  | 4, _ =>
    (repeat' ((conv => whnf); first | (with_reducible first | refine Spl.tt ?_ | refine Spl.ff ?_) | refine at_lit (x := (3 : UInt8)) (by decide +kernel) (by decide +kernel) ?_ | with_reducible refine LetI.eq 3 (by with_unfolding_all exact rfl) ?_ | (with_reducible first | refine draw_auto ti_ok mixed (by decide +kernel) ?_ | refine g_i64 ?_ | refine g_u64 ?_ | refine g_u8 ?_ | refine g_iq ?_ | refine g_uq ?_ | refine g_rem ?_ | refine LetN.mk ?_ | refine g_hm ?_ | refine g_hb ?_ | refine g_lit ?_ | refine g_nm8 (fun x hx hu => ?_) | refine g_n8 (fun x hx hu => ?_) | refine g_b8 (fun x hx hu => ?_) | refine g_nm (fun x hx => ?_) | refine g_im (fun x hx => ?_) | refine g_n (fun x hx => ?_) | refine g_b (fun x hx => ?_) | refine g_and ?_ | refine g_c ?_ | refine Both.mk ?_ ?_ | refine NilS.ts ?_ | refine LetE.now ?_ | refine AtD.now ?_ | refine LetC.now ?_ | refine g_some ?_ | refine g_yk ?_ | refine g_nk ?_ | refine g_y ?_ | refine g_f ?_ | refine AtA.mk' ?_ | refine Spl.pd (fun h => ?_) (fun h => ?_) | refine Spl.peq (fun h => ?_) (fun h => ?_) | refine Spl.pne (fun h => ?_) (fun h => ?_) | refine Spl.seq (fun h => ?_) (fun h => ?_) | refine Spl.sne (fun h => ?_) (fun h => ?_) | refine Spl.nt ?_ | refine Spl.mk (fun h => ?_) (fun h => ?_))))
    with_unfolding_all exact rfl
theorem len_ok (n : Nat) (hn : n ≤ 4) : FnC Tryz.prog 59 [.d (.it .u64 n)] (.d (.it .i64 (lenN n))) := by
  refine FnC.intro ti_ok Tryz.func59 rfl Tryz.ntmps59 Tryz.call59 rfl (Nat.le_of_ble_eq_true rfl) rfl ?_
  have h := len64_ok n hn
  (repeat' ((conv => whnf); first | (with_reducible first | refine Spl.tt ?_ | refine Spl.ff ?_) | (refine CallE.con ⟨_, h, ?_⟩) | (refine CallP.mk ⟨_, h, ?_⟩) | (with_reducible first | refine draw_auto ti_ok mixed (by decide +kernel) ?_ | refine g_i64 ?_ | refine g_u64 ?_ | refine g_u8 ?_ | refine g_iq ?_ | refine g_uq ?_ | refine g_rem ?_ | refine LetN.mk ?_ | refine g_hm ?_ | refine g_hb ?_ | refine g_lit ?_ | refine g_nm8 (fun x hx hu => ?_) | refine g_n8 (fun x hx hu => ?_) | refine g_b8 (fun x hx hu => ?_) | refine g_nm (fun x hx => ?_) | refine g_im (fun x hx => ?_) | refine g_n (fun x hx => ?_) | refine g_b (fun x hx => ?_) | refine g_and ?_ | refine g_c ?_ | refine Both.mk ?_ ?_ | refine NilS.ts ?_ | refine LetE.now ?_ | refine AtD.now ?_ | refine LetC.now ?_ | refine g_some ?_ | refine g_yk ?_ | refine g_nk ?_ | refine g_y ?_ | refine g_f ?_ | refine AtA.mk' ?_ | refine Spl.pd (fun h => ?_) (fun h => ?_) | refine Spl.peq (fun h => ?_) (fun h => ?_) | refine Spl.pne (fun h => ?_) (fun h => ?_) | refine Spl.seq (fun h => ?_) (fun h => ?_) | refine Spl.sne (fun h => ?_) (fun h => ?_) | refine Spl.nt ?_ | refine Spl.mk (fun h => ?_) (fun h => ?_))))
  rfl
end Go.Proofs.YtfpcclakpklghaaGreatDoor

/- slices.Sort and slices.Compact as contracts of a vector. Conditions: none. -/
namespace Go.Proofs.YtfpcclakpklghaaGreatDoor
open Go.Sy
set_option maxRecDepth 100000
set_option linter.all false
def sortI (l : List Int) : List Int := l.mergeSort fun x y => decide (x ≤ y)
def vI (l : List Int) : List (List D) := l.map fun z => [.it .i64 z]
theorem sortI_ok (t : Nat) (fl : Bool) (zs : List Int) (h0 : 0 < zs.length) (hsz : zs.length < 4611686018427387904) : FnM Tryz.prog 88 true [.vx 1 0 0 zs.length] (.vec t 1 (vI zs) fl) (.vec t 1 (vI (sortI zs)) fl) (.tup []) :=
  FnM.ofRow (Value.int .i64) (fun z => .it .i64 z) (fun F x => .it _ _) (fun F x v h => by cases h; rfl) (m := none) (List.length_mergeSort _) h0 (fun q h => by cases h) Tryz.call88 (fun blk off cap w hH hb hc => (Tryz.slices_Sort_int blk off cap zs w hH hb hsz).mono fun e w' h => h)
theorem compactI_ok (t : Nat) (fl : Bool) (n : Nat) (zs : List Int) (hn : zs.length = n) (h0 : 0 < n) (hsz : n < 4611686018427387904) : FnM Tryz.prog 89 true [.vx 1 0 0 n] (.vec t 1 (vI zs) fl) (.vec t 1 (vI (Lib.compact zs ++ List.replicate (zs.length - (Lib.compact zs).length) 0)) fl) (.vx 1 0 0 (Lib.compact zs).length) := by
  subst hn
  exact FnM.ofRow (Value.int .i64) (fun z => .it .i64 z) (fun F x => .it _ _) (fun F x v h => by cases h; rfl) (m := some (Lib.compact zs).length) (by have := Lib.compact_length_le zs; simp; omega) h0 (fun q h => by cases h; exact Lib.compact_length_le zs) Tryz.call89 (fun blk off cap w hH hb hc => (Tryz.slices_Compact_int blk off cap zs w hH (by omega) hc).mono fun e w' ⟨h1, q, h2⟩ => ⟨h1, q, #[], by rw [Go.Sort.grow_empty]; exact h2⟩)
end Go.Proofs.YtfpcclakpklghaaGreatDoor

/- Entries: may they be? Conditions: none. -/
namespace Go.Proofs.YtfpcclakpklghaaGreatDoor
open Go.Sy
set_option maxRecDepth 100000
set_option linter.all false
structure Ent where
  u : Bool
  p : Int
  n : List UInt8
  t : Int
deriving DecidableEq
def encE (x : Ent) : List D := [.bl x.u, .it .i64 x.p, .st x.n, .it .i64 x.t]
def RE (x : Ent) : Prop := x.u = false ∧ x.p = 0 ∧ x.n = [] ∧ x.t = 0 ∨ x.u = true ∧ 0 ≤ x.p ∧ x.p < 16 ∧ 1 ≤ x.t ∧ x.t < 16 ∧ nameB x.n = true
instance (x : Ent) : Decidable (RE x) := by unfold RE; infer_instance
theorem e_ff {p : Prop} [Decidable p] (h : ¬ p) : AV.d (.bl false) = AV.d (.bl (decide p)) := by rw [decide_eq_false h]
theorem e_of {e : Bool} {p : Prop} [Decidable p] (h : e = true ↔ p) : AV.d (.bl e) = AV.d (.bl (decide p)) := by
  have : e = decide p := by rw [Bool.eq_iff_iff, h, decide_eq_true_eq]
  rw [this]
theorem eqE4 (a a' : Bool) (b b' : Int) (c c' : List UInt8) (d d' : Int) : eqDs [.bl a, .it .i64 b, .st c, .it .i64 d] [.bl a', .it .i64 b', .st c', .it .i64 d'] = decide (a = a' ∧ b = b' ∧ c = c' ∧ d = d') := by
  rw [Bool.eq_iff_iff]; simp [eqDs, eqD]
theorem e_tr {a b : Bool} {v : AV} (h : a = b) (h2 : AV.d (.bl b) = v) : AV.d (.bl a) = v := by rw [h, h2]
theorem re_ok (x : Ent) : FnC Tryz.prog 64 [.dg 4 (encE x)] (.d (.bl (decide (RE x)))) := by
  refine FnC.intro ti_ok Tryz.func64 rfl Tryz.ntmps64 Tryz.call64 rfl (Nat.le_of_ble_eq_true rfl) rfl ?_
  have hn := name_ok x.n
  cases hu : x.u with
  | false =>
    have hu' : (!x.u) = true := by rw [hu]; rfl
    (repeat' ((conv => whnf); first | (with_reducible first | refine Spl.tt ?_ | refine Spl.ff ?_) | (with_reducible first | refine draw_auto ti_ok mixed (by decide +kernel) ?_ | refine g_i64 ?_ | refine g_u64 ?_ | refine g_u8 ?_ | refine g_iq ?_ | refine g_uq ?_ | refine g_rem ?_ | refine LetN.mk ?_ | refine g_hm ?_ | refine g_hb ?_ | refine g_lit ?_ | refine g_nm8 (fun x hx hu => ?_) | refine g_n8 (fun x hx hu => ?_) | refine g_b8 (fun x hx hu => ?_) | refine g_nm (fun x hx => ?_) | refine g_im (fun x hx => ?_) | refine g_n (fun x hx => ?_) | refine g_b (fun x hx => ?_) | refine g_and ?_ | refine g_c ?_ | refine Both.mk ?_ ?_ | refine NilS.ts ?_ | refine LetE.now ?_ | refine AtD.now ?_ | refine LetC.now ?_ | refine g_some ?_ | refine g_yk ?_ | refine g_nk ?_ | refine g_y ?_ | refine g_f ?_ | refine AtA.mk' ?_ | refine Spl.pd (fun h => ?_) (fun h => ?_) | refine Spl.peq (fun h => ?_) (fun h => ?_) | refine Spl.pne (fun h => ?_) (fun h => ?_) | refine Spl.seq (fun h => ?_) (fun h => ?_) | refine Spl.sne (fun h => ?_) (fun h => ?_) | refine Spl.nt ?_ | refine Spl.mk (fun h => ?_) (fun h => ?_))))
    exact e_tr (eqE4 _ _ _ _ _ _ _ _) (e_of (by simp [RE, hu]))
  | true =>
    have hu' : (!x.u) = false := by rw [hu]; rfl
    (repeat' ((conv => whnf); first | (with_reducible first | refine Spl.tt ?_ | refine Spl.ff ?_) | (refine CallE.con ⟨_, hn, ?_⟩) | with_reducible refine CallI.inl ti_ok i91 rfl ?_ | (with_reducible first | refine draw_auto ti_ok mixed (by decide +kernel) ?_ | refine g_i64 ?_ | refine g_u64 ?_ | refine g_u8 ?_ | refine g_iq ?_ | refine g_uq ?_ | refine g_rem ?_ | refine LetN.mk ?_ | refine g_hm ?_ | refine g_hb ?_ | refine g_lit ?_ | refine g_nm8 (fun x hx hu => ?_) | refine g_n8 (fun x hx hu => ?_) | refine g_b8 (fun x hx hu => ?_) | refine g_nm (fun x hx => ?_) | refine g_im (fun x hx => ?_) | refine g_n (fun x hx => ?_) | refine g_b (fun x hx => ?_) | refine g_and ?_ | refine g_c ?_ | refine Both.mk ?_ ?_ | refine NilS.ts ?_ | refine LetE.now ?_ | refine AtD.now ?_ | refine LetC.now ?_ | refine g_some ?_ | refine g_yk ?_ | refine g_nk ?_ | refine g_y ?_ | refine g_f ?_ | refine AtA.mk' ?_ | refine Spl.pd (fun h => ?_) (fun h => ?_) | refine Spl.peq (fun h => ?_) (fun h => ?_) | refine Spl.pne (fun h => ?_) (fun h => ?_) | refine Spl.seq (fun h => ?_) (fun h => ?_) | refine Spl.sne (fun h => ?_) (fun h => ?_) | refine Spl.nt ?_ | refine Spl.mk (fun h => ?_) (fun h => ?_))))
    all_goals first
      | (refine e_ff ?_; simp only [RE, hu]; simp; omega)
      | exact e_of ⟨fun hb => .inr ⟨hu, by omega, by omega, by omega, by omega, hb⟩, fun h => h.elim (fun h => by rw [hu] at h; cases h.1) fun h => h.2.2.2.2.2⟩
theorem refRE_ok (x : Ent) : FnC Tryz.prog 65 [.dg 4 (encE x)] (.d (.bl (decide (RE x)))) := by
  refine FnC.intro ti_ok Tryz.func65 rfl Tryz.ntmps65 Tryz.call65 rfl (Nat.le_of_ble_eq_true rfl) rfl ?_
  have hn := refName_ok x.n
  cases hu : x.u with
  | false =>
    have hu' : (!x.u) = true := by rw [hu]; rfl
    (repeat' ((conv => whnf); first | (with_reducible first | refine Spl.tt ?_ | refine Spl.ff ?_) | (with_reducible first | refine draw_auto ti_ok mixed (by decide +kernel) ?_ | refine g_i64 ?_ | refine g_u64 ?_ | refine g_u8 ?_ | refine g_iq ?_ | refine g_uq ?_ | refine g_rem ?_ | refine LetN.mk ?_ | refine g_hm ?_ | refine g_hb ?_ | refine g_lit ?_ | refine g_nm8 (fun x hx hu => ?_) | refine g_n8 (fun x hx hu => ?_) | refine g_b8 (fun x hx hu => ?_) | refine g_nm (fun x hx => ?_) | refine g_im (fun x hx => ?_) | refine g_n (fun x hx => ?_) | refine g_b (fun x hx => ?_) | refine g_and ?_ | refine g_c ?_ | refine Both.mk ?_ ?_ | refine NilS.ts ?_ | refine LetE.now ?_ | refine AtD.now ?_ | refine LetC.now ?_ | refine g_some ?_ | refine g_yk ?_ | refine g_nk ?_ | refine g_y ?_ | refine g_f ?_ | refine AtA.mk' ?_ | refine Spl.pd (fun h => ?_) (fun h => ?_) | refine Spl.peq (fun h => ?_) (fun h => ?_) | refine Spl.pne (fun h => ?_) (fun h => ?_) | refine Spl.seq (fun h => ?_) (fun h => ?_) | refine Spl.sne (fun h => ?_) (fun h => ?_) | refine Spl.nt ?_ | refine Spl.mk (fun h => ?_) (fun h => ?_))))
    exact e_tr (eqE4 _ _ _ _ _ _ _ _) (e_of (by simp [RE, hu]))
  | true =>
    have hu' : (!x.u) = false := by rw [hu]; rfl
    (repeat' ((conv => whnf); first | (with_reducible first | refine Spl.tt ?_ | refine Spl.ff ?_) | (refine CallE.con ⟨_, hn, ?_⟩) | (with_reducible first | refine draw_auto ti_ok mixed (by decide +kernel) ?_ | refine g_i64 ?_ | refine g_u64 ?_ | refine g_u8 ?_ | refine g_iq ?_ | refine g_uq ?_ | refine g_rem ?_ | refine LetN.mk ?_ | refine g_hm ?_ | refine g_hb ?_ | refine g_lit ?_ | refine g_nm8 (fun x hx hu => ?_) | refine g_n8 (fun x hx hu => ?_) | refine g_b8 (fun x hx hu => ?_) | refine g_nm (fun x hx => ?_) | refine g_im (fun x hx => ?_) | refine g_n (fun x hx => ?_) | refine g_b (fun x hx => ?_) | refine g_and ?_ | refine g_c ?_ | refine Both.mk ?_ ?_ | refine NilS.ts ?_ | refine LetE.now ?_ | refine AtD.now ?_ | refine LetC.now ?_ | refine g_some ?_ | refine g_yk ?_ | refine g_nk ?_ | refine g_y ?_ | refine g_f ?_ | refine AtA.mk' ?_ | refine Spl.pd (fun h => ?_) (fun h => ?_) | refine Spl.peq (fun h => ?_) (fun h => ?_) | refine Spl.pne (fun h => ?_) (fun h => ?_) | refine Spl.seq (fun h => ?_) (fun h => ?_) | refine Spl.sne (fun h => ?_) (fun h => ?_) | refine Spl.nt ?_ | refine Spl.mk (fun h => ?_) (fun h => ?_))))
    all_goals first
      | (refine e_ff ?_; simp only [RE, hu]; simp; omega)
      | exact e_of ⟨fun hb => .inr ⟨hu, by omega, by omega, by omega, by omega, hb⟩, fun h => h.elim (fun h => by rw [hu] at h; cases h.1) fun h => h.2.2.2.2.2⟩
end Go.Proofs.YtfpcclakpklghaaGreatDoor

/- Entries as sectors. Conditions: none. -/
namespace Go.Proofs.YtfpcclakpklghaaGreatDoor
open Go.Sy
set_option maxRecDepth 100000
set_option linter.all false
def by8e (n : Int) : UInt8 := UInt8.ofNat n.toNat
theorem by8e_ok {n : Int} (h : 0 ≤ n ∧ n < 256) : ((by8e n).toNat : Int) = n := by
  unfold by8e
  rw [UInt8.toNat_ofNat']
  omega
/-- The sector of an entry. -/
def entS (x : Ent) : List UInt8 := if x.u = true then [1, by8e x.p, by8e x.t, by8e x.n.length, 0, 0, 0, 0, 0, 0, 0, 0, 0, 0, 0, 0] ++ x.n ++ List.replicate (16 - x.n.length) 0 else zeroS
def c16 (x : Ent) : List D := [.it .u8 1, .it .u8 x.p, .it .u8 x.t, .it .u8 (x.n.length : Nat), .it .u8 0, .it .u8 0, .it .u8 0, .it .u8 0, .it .u8 0, .it .u8 0, .it .u8 0, .it .u8 0, .it .u8 0, .it .u8 0, .it .u8 0, .it .u8 0]
theorem st_all (l : List AV) : l = [] ++ l ++ [] := by simp
theorem bytes_flat : ∀ (n : List UInt8), (bytesD n).flatten = encS n
  | [] => rfl
  | b :: n => by show [D.it .u8 b.toNat] ++ (bytesD n).flatten = D.it .u8 b.toNat :: encS n; rw [bytes_flat n]; rfl
theorem encS_rep (k : Nat) : encS (List.replicate k 0) = List.replicate k (.it .u8 0) := by unfold encS; rw [List.map_replicate]; rfl
theorem entS_len (x : Ent) (hx : RE x) : (entS x).length = 32 := by
  unfold entS
  unfold RE at hx
  split
  · rename_i hu
    rcases hx with h | ⟨_, _, _, _, _, hn⟩
    · rw [hu] at h; cases h.1
    · have : x.n.length ≤ 8 := by
        unfold nameB at hn
        simp only [Bool.and_eq_true, decide_eq_true_eq] at hn; omega
      simp; omega
  · rfl
theorem entS_enc {x : Ent} (hu : x.u = true) (hp : 0 ≤ x.p ∧ x.p < 16) (ht : 0 ≤ x.t ∧ x.t < 16) (hn : x.n.length ≤ 16) :
    encS (entS x) = c16 x ++ encS x.n ++ List.replicate (16 - x.n.length) (.it .u8 0) := by
  unfold entS
  rw [if_pos hu]
  show encS (_ ++ x.n ++ _) = _
  unfold encS
  rw [List.map_append, List.map_append]
  have e2 : List.map (fun b : UInt8 => D.it .u8 b.toNat) [1, by8e x.p, by8e x.t, by8e x.n.length, 0, 0, 0, 0, 0, 0, 0, 0, 0, 0, 0, 0] = c16 x := by
    show [_, D.it .u8 (by8e x.p).toNat, D.it .u8 (by8e x.t).toNat, D.it .u8 (by8e x.n.length).toNat, _, _, _, _, _, _, _, _, _, _, _, _] = _
    rw [by8e_ok (by omega), by8e_ok (by omega), by8e_ok (by omega)]; rfl
  rw [e2]
  have e3 := encS_rep (16 - x.n.length)
  unfold encS at e3
  rw [e3]
theorem entS_cells {x : Ent} (hu : x.u = true) (hp : 0 ≤ x.p ∧ x.p < 16) (ht : 0 ≤ x.t ∧ x.t < 16) (hn : x.n.length ≤ 16) :
    (encS (entS x)).map AV.d = ((c16 x ++ List.replicate 16 (D.it .u8 0)).map AV.d).take 16 ++ (bytesD x.n).flatten.map AV.d ++ ((c16 x ++ List.replicate 16 (D.it .u8 0)).map AV.d).drop (16 + x.n.length * 1) := by
  have e1 := entS_enc hu hp ht hn
  have hl : (c16 x).length = 16 := rfl
  rw [e1, bytes_flat, List.map_append, List.map_append, List.map_append]
  have t1 : ((c16 x).map AV.d ++ (List.replicate 16 (D.it .u8 0)).map AV.d).take 16 = (c16 x).map AV.d := List.take_left' (by simp [hl])
  have t2 : ((c16 x).map AV.d ++ (List.replicate 16 (D.it .u8 0)).map AV.d).drop (16 + x.n.length * 1) = (List.replicate (16 - x.n.length) (D.it .u8 0)).map AV.d := by
    rw [List.drop_append, List.drop_eq_nil_of_le (by simp [hl]), List.nil_append, List.length_map, hl, List.map_replicate, List.map_replicate, List.drop_replicate]
    congr 1; omega
  rw [t1, t2]
theorem bytesD_l (n : List UInt8) : (bytesD n).length = n.length := by unfold bytesD; exact List.length_map ..
theorem entS_cells2 {x : Ent} {i j : Nat} (hi : i = 16) (hj : j = 16 + x.n.length * 1) (hu : x.u = true) (hp : 0 ≤ x.p ∧ x.p < 16) (ht : 0 ≤ x.t ∧ x.t < 16) (hn : x.n.length ≤ 16) :
    (encS (entS x)).map AV.d = ((c16 x ++ List.replicate 16 (D.it .u8 0)).map AV.d).take i ++ (bytesD x.n).flatten.map AV.d ++ ((c16 x ++ List.replicate 16 (D.it .u8 0)).map AV.d).drop j := by
  subst hi hj; exact entS_cells hu hp ht hn
def entR (x : Ent) : AV := if RE x then .tup [.dg 32 (encS (entS x)), .d (.bl true)] else .tup [.dg 32 (encS zeroS), .d (.bl false)]
set_option maxHeartbeats 4000000 in
theorem ent_ok (x : Ent) : FnC Tryz.prog 47 [.dg 4 (encE x)] (entR x) := by
  have hr := re_ok x
  unfold entR
  by_cases h : RE x
  · have hl := entS_len x h
    rw [if_pos h]
    rw [decide_eq_true h] at hr
    cases hu : x.u with
    | true =>
      obtain ⟨hp, ht, hn⟩ : (0 ≤ x.p ∧ x.p < 16) ∧ (0 ≤ x.t ∧ x.t < 16) ∧ x.n.length ≤ 8 := by
        unfold RE at h
        rcases h with h | ⟨_, h1, h2, h3, h4, hn⟩
        · rw [hu] at h; cases h.1
        · unfold nameB at hn
          simp only [Bool.and_eq_true, decide_eq_true_eq] at hn; omega
      refine FnC.intro ti_ok Tryz.func47 rfl Tryz.ntmps47 Tryz.call47 rfl (Nat.le_of_ble_eq_true rfl) rfl ?_
      (repeat' ((conv => whnf); first | (with_reducible first | refine Spl.tt ?_ | refine Spl.ff ?_) | ((with_reducible refine callE_id ?_); (refine CallE.con ⟨_, hr, ?_⟩)) | ((with_reducible refine letC_id ?_); first | refine LetC.mk ((c16 x ++ List.replicate 16 (D.it .u8 0)).map AV.d) rfl ?_ | refine LetC.mk ((encS (entS x)).map AV.d) (entS_cells2 rfl (by show 0 + 16 * 1 + (bytesD x.n).length * 1 = _; rw [bytesD_l]) hu (by omega) (by omega) (by omega)) ?_ | refine LetC.mk ((encS (entS x)).map AV.d) (st_all _) ?_ | refine LetC.now ?_) | refine AtA.eq (ld_sec rfl rfl hl) ?_ | with_reducible refine AtA.mk' ?_ | (with_reducible first | refine draw_auto ti_ok mixed (by decide +kernel) ?_ | refine g_i64 ?_ | refine g_u64 ?_ | refine g_u8 ?_ | refine g_iq ?_ | refine g_uq ?_ | refine g_rem ?_ | refine LetN.mk ?_ | refine g_hm ?_ | refine g_hb ?_ | refine g_lit ?_ | refine g_nm8 (fun x hx hu => ?_) | refine g_n8 (fun x hx hu => ?_) | refine g_b8 (fun x hx hu => ?_) | refine g_nm (fun x hx => ?_) | refine g_im (fun x hx => ?_) | refine g_n (fun x hx => ?_) | refine g_b (fun x hx => ?_) | refine g_and ?_ | refine g_c ?_ | refine Both.mk ?_ ?_ | refine NilS.ts ?_ | refine LetE.now ?_ | refine AtD.now ?_ | refine LetC.now ?_ | refine g_some ?_ | refine g_yk ?_ | refine g_nk ?_ | refine g_y ?_ | refine g_f ?_ | refine AtA.mk' ?_ | refine Spl.pd (fun h => ?_) (fun h => ?_) | refine Spl.peq (fun h => ?_) (fun h => ?_) | refine Spl.pne (fun h => ?_) (fun h => ?_) | refine Spl.seq (fun h => ?_) (fun h => ?_) | refine Spl.sne (fun h => ?_) (fun h => ?_) | refine Spl.nt ?_ | refine Spl.mk (fun h => ?_) (fun h => ?_))))
      conv => whnf
      conv in (ldA _ _ _) => tactic => exact ld_sec rfl rfl hl
      rfl
    | false =>
      have he : entS x = zeroS := by unfold entS; rw [hu]; rfl
      rw [he]
      refine FnC.intro ti_ok Tryz.func47 rfl Tryz.ntmps47 Tryz.call47 rfl (Nat.le_of_ble_eq_true rfl) rfl ?_
      (repeat' ((conv => whnf); first | (with_reducible first | refine Spl.tt ?_ | refine Spl.ff ?_) | ((with_reducible refine callE_id ?_); (refine CallE.con ⟨_, hr, ?_⟩)) | with_reducible refine AtA.mk' ?_ | (with_reducible first | refine draw_auto ti_ok mixed (by decide +kernel) ?_ | refine g_i64 ?_ | refine g_u64 ?_ | refine g_u8 ?_ | refine g_iq ?_ | refine g_uq ?_ | refine g_rem ?_ | refine LetN.mk ?_ | refine g_hm ?_ | refine g_hb ?_ | refine g_lit ?_ | refine g_nm8 (fun x hx hu => ?_) | refine g_n8 (fun x hx hu => ?_) | refine g_b8 (fun x hx hu => ?_) | refine g_nm (fun x hx => ?_) | refine g_im (fun x hx => ?_) | refine g_n (fun x hx => ?_) | refine g_b (fun x hx => ?_) | refine g_and ?_ | refine g_c ?_ | refine Both.mk ?_ ?_ | refine NilS.ts ?_ | refine LetE.now ?_ | refine AtD.now ?_ | refine LetC.now ?_ | refine g_some ?_ | refine g_yk ?_ | refine g_nk ?_ | refine g_y ?_ | refine g_f ?_ | refine AtA.mk' ?_ | refine Spl.pd (fun h => ?_) (fun h => ?_) | refine Spl.peq (fun h => ?_) (fun h => ?_) | refine Spl.pne (fun h => ?_) (fun h => ?_) | refine Spl.seq (fun h => ?_) (fun h => ?_) | refine Spl.sne (fun h => ?_) (fun h => ?_) | refine Spl.nt ?_ | refine Spl.mk (fun h => ?_) (fun h => ?_))))
      all_goals rfl
  · rw [if_neg h]
    rw [decide_eq_false h] at hr
    refine FnC.intro ti_ok Tryz.func47 rfl Tryz.ntmps47 Tryz.call47 rfl (Nat.le_of_ble_eq_true rfl) rfl ?_
    (repeat' ((conv => whnf); first | (with_reducible first | refine Spl.tt ?_ | refine Spl.ff ?_) | ((with_reducible refine callE_id ?_); (refine CallE.con ⟨_, hr, ?_⟩)) | with_reducible refine AtA.mk' ?_ | (with_reducible first | refine draw_auto ti_ok mixed (by decide +kernel) ?_ | refine g_i64 ?_ | refine g_u64 ?_ | refine g_u8 ?_ | refine g_iq ?_ | refine g_uq ?_ | refine g_rem ?_ | refine LetN.mk ?_ | refine g_hm ?_ | refine g_hb ?_ | refine g_lit ?_ | refine g_nm8 (fun x hx hu => ?_) | refine g_n8 (fun x hx hu => ?_) | refine g_b8 (fun x hx hu => ?_) | refine g_nm (fun x hx => ?_) | refine g_im (fun x hx => ?_) | refine g_n (fun x hx => ?_) | refine g_b (fun x hx => ?_) | refine g_and ?_ | refine g_c ?_ | refine Both.mk ?_ ?_ | refine NilS.ts ?_ | refine LetE.now ?_ | refine AtD.now ?_ | refine LetC.now ?_ | refine g_some ?_ | refine g_yk ?_ | refine g_nk ?_ | refine g_y ?_ | refine g_f ?_ | refine AtA.mk' ?_ | refine Spl.pd (fun h => ?_) (fun h => ?_) | refine Spl.peq (fun h => ?_) (fun h => ?_) | refine Spl.pne (fun h => ?_) (fun h => ?_) | refine Spl.seq (fun h => ?_) (fun h => ?_) | refine Spl.sne (fun h => ?_) (fun h => ?_) | refine Spl.nt ?_ | refine Spl.mk (fun h => ?_) (fun h => ?_))))
    all_goals rfl
end Go.Proofs.YtfpcclakpklghaaGreatDoor

/- Entries as sectors, by the document's answer. Conditions: none. -/
namespace Go.Proofs.YtfpcclakpklghaaGreatDoor
open Go.Sy
set_option maxRecDepth 100000
set_option linter.all false
def eC (x : Ent) (i : Nat) : List D := c16 x ++ encS (x.n.take i) ++ List.replicate (16 - i) (.it .u8 0)
theorem cells32 {a b : List AV} (h : a = b) : Ob.cells 32 a = Ob.cells 32 b := by rw [h]
theorem eC_step {x : Ent} {i j : Nat} {c : UInt8} (hi : i < x.n.length) (hn : x.n.length ≤ 8) (hc : x.n[i]? = some c) (hj : j = 16 + i) :
    ((eC x i).map AV.d).take j ++ [AV.d (.it .u8 c.toNat)] ++ ((eC x i).map AV.d).drop (j+1) = (eC x (i+1)).map AV.d := by
  subst hj
  have hl : (c16 x).length = 16 := rfl
  have hL : ((c16 x).map AV.d ++ (encS (x.n.take i)).map AV.d).length = 16 + i := by simp [encS_len, hl]; omega
  unfold eC
  rw [List.map_append, List.map_append, List.map_append, List.map_append]
  have t1 := List.take_left' (l₁ := (c16 x).map AV.d ++ (encS (x.n.take i)).map AV.d) (l₂ := (List.replicate (16 - i) (D.it .u8 0)).map AV.d) hL
  have t2 : ((c16 x).map AV.d ++ (encS (x.n.take i)).map AV.d ++ (List.replicate (16 - i) (D.it .u8 0)).map AV.d).drop (16 + i + 1) = (List.replicate (16 - (i+1)) (D.it .u8 0)).map AV.d := by
    rw [List.drop_append, List.drop_eq_nil_of_le (by omega), List.nil_append, hL, List.map_replicate, List.map_replicate, List.drop_replicate]
    congr 1; omega
  rw [t1, t2]
  have t3 : encS (x.n.take (i+1)) = encS (x.n.take i) ++ [D.it .u8 c.toNat] := by
    rw [List.take_add_one, hc]; unfold encS; rw [List.map_append]; rfl
  rw [t3, List.map_append]
  simp only [List.append_assoc]; rfl
set_option maxHeartbeats 4000000 in
theorem refEnt_ok (x : Ent) : FnC Tryz.prog 48 [.dg 4 (encE x)] (entR x) := by
  have hr := refRE_ok x
  unfold entR
  by_cases h : RE x
  · have hl := entS_len x h
    rw [if_pos h]
    rw [decide_eq_true h] at hr
    cases hu : x.u with
    | true =>
      have hu' : (!x.u) = false := by rw [hu]; rfl
      obtain ⟨hp, ht, hn⟩ : (0 ≤ x.p ∧ x.p < 16) ∧ (0 ≤ x.t ∧ x.t < 16) ∧ x.n.length ≤ 8 := by
        unfold RE at h
        rcases h with h | ⟨_, h1, h2, h3, h4, hn⟩
        · rw [hu] at h; cases h.1
        · unfold nameB at hn
          simp only [Bool.and_eq_true, decide_eq_true_eq] at hn; omega
      refine FnC.intro ti_ok Tryz.func48 rfl Tryz.ntmps48 Tryz.call48 rfl (Nat.le_of_ble_eq_true rfl) rfl ?_
      (repeat' ((conv => whnf); first | (with_reducible first | refine Spl.tt ?_ | refine Spl.ff ?_) | ((with_reducible refine callE_id ?_); (refine CallE.con ⟨_, hr, ?_⟩)) | ((with_reducible refine letC_id ?_); first | refine LetC.mk ((c16 x ++ List.replicate 16 (D.it .u8 0)).map AV.d) rfl ?_ | refine LetC.now ?_) | with_reducible refine AtA.mk' ?_ | (with_reducible first | refine draw_auto ti_ok mixed (by decide +kernel) ?_ | refine g_i64 ?_ | refine g_u64 ?_ | refine g_u8 ?_ | refine g_iq ?_ | refine g_uq ?_ | refine g_rem ?_ | refine LetN.mk ?_ | refine g_hm ?_ | refine g_hb ?_ | refine g_lit ?_ | refine g_nm8 (fun x hx hu => ?_) | refine g_n8 (fun x hx hu => ?_) | refine g_b8 (fun x hx hu => ?_) | refine g_nm (fun x hx => ?_) | refine g_im (fun x hx => ?_) | refine g_n (fun x hx => ?_) | refine g_b (fun x hx => ?_) | refine g_and ?_ | refine g_c ?_ | refine Both.mk ?_ ?_ | refine NilS.ts ?_ | refine LetE.now ?_ | refine AtD.now ?_ | refine LetC.now ?_ | refine g_some ?_ | refine g_yk ?_ | refine g_nk ?_ | refine g_y ?_ | refine g_f ?_ | refine AtA.mk' ?_ | refine Spl.pd (fun h => ?_) (fun h => ?_) | refine Spl.peq (fun h => ?_) (fun h => ?_) | refine Spl.pne (fun h => ?_) (fun h => ?_) | refine Spl.seq (fun h => ?_) (fun h => ?_) | refine Spl.sne (fun h => ?_) (fun h => ?_) | refine Spl.nt ?_ | refine Spl.mk (fun h => ?_) (fun h => ?_))))
      refine loop_rule ti_ok (fun i : Nat => i ≤ x.n.length) (fun i : Nat => ⟨[(1,.ptr 0 0),(2,.ptr 1 0),(3,.d (.bl false)),(4,.ptr 2 0),(5,.d (.it .i64 (i : Nat)))], [(0,.cells 4 ((encE x).map .d)),(1,.cells 32 ((encS zeroS).map .d)),(2,.cells 32 ((eC x i).map .d))], 3⟩) (fun i => x.n.length - i) 0 (Nat.zero_le _) ⟨And.intro rfl (And.intro rfl (And.intro rfl (And.intro rfl (And.intro rfl trivial)))), And.intro rfl (And.intro rfl (And.intro rfl trivial)), rfl⟩ ?_
      intro i hi
      rcases Nat.lt_or_ge i x.n.length with hil | hil
      · obtain ⟨c, hc⟩ := lt_get hil
        (repeat' ((conv => whnf); first | (with_reducible first | refine Spl.tt ?_ | refine Spl.ff ?_) | with_reducible refine at_known hc ?_ | with_reducible refine AtA.mk' ?_ | (with_reducible first | refine draw_auto ti_ok mixed (by decide +kernel) ?_ | refine g_i64 ?_ | refine g_u64 ?_ | refine g_u8 ?_ | refine g_iq ?_ | refine g_uq ?_ | refine g_rem ?_ | refine LetN.mk ?_ | refine g_hm ?_ | refine g_hb ?_ | refine g_lit ?_ | refine g_nm8 (fun x hx hu => ?_) | refine g_n8 (fun x hx hu => ?_) | refine g_b8 (fun x hx hu => ?_) | refine g_nm (fun x hx => ?_) | refine g_im (fun x hx => ?_) | refine g_n (fun x hx => ?_) | refine g_b (fun x hx => ?_) | refine g_and ?_ | refine g_c ?_ | refine Both.mk ?_ ?_ | refine NilS.ts ?_ | refine LetE.now ?_ | refine AtD.now ?_ | refine LetC.now ?_ | refine g_some ?_ | refine g_yk ?_ | refine g_nk ?_ | refine g_y ?_ | refine g_f ?_ | refine AtA.mk' ?_ | refine Spl.pd (fun h => ?_) (fun h => ?_) | refine Spl.peq (fun h => ?_) (fun h => ?_) | refine Spl.pne (fun h => ?_) (fun h => ?_) | refine Spl.seq (fun h => ?_) (fun h => ?_) | refine Spl.sne (fun h => ?_) (fun h => ?_) | refine Spl.nt ?_ | refine Spl.mk (fun h => ?_) (fun h => ?_))))
        refine again (i+1) (by omega) (by dsimp only; omega) (And.intro rfl (And.intro rfl (And.intro rfl (And.intro rfl (And.intro rfl trivial))))) (And.intro rfl (And.intro rfl (And.intro (cells32 (eC_step hil hn hc ?_)) trivial))) (by simp only [S.ok, List.all_cons, List.all_nil, Ob.lt, all_d]; rfl)
        show 0 + ((16:Int)+(i:Nat)).toNat * 1 = 16 + i; omega
      · have hi' : i = x.n.length := by omega
        have hfin : eC x i = encS (entS x) := by
          unfold eC; rw [entS_enc hu hp ht (by omega), hi', List.take_length]
        rw [hfin]
        (repeat' ((conv => whnf); first | (with_reducible first | refine Spl.tt ?_ | refine Spl.ff ?_) | ((with_reducible refine letC_id ?_); first | refine LetC.mk ((encS (entS x)).map AV.d) (st_all _) ?_) | refine AtA.eq (ld_sec rfl rfl hl) ?_ | with_reducible refine AtA.mk' ?_ | (with_reducible first | refine draw_auto ti_ok mixed (by decide +kernel) ?_ | refine g_i64 ?_ | refine g_u64 ?_ | refine g_u8 ?_ | refine g_iq ?_ | refine g_uq ?_ | refine g_rem ?_ | refine LetN.mk ?_ | refine g_hm ?_ | refine g_hb ?_ | refine g_lit ?_ | refine g_nm8 (fun x hx hu => ?_) | refine g_n8 (fun x hx hu => ?_) | refine g_b8 (fun x hx hu => ?_) | refine g_nm (fun x hx => ?_) | refine g_im (fun x hx => ?_) | refine g_n (fun x hx => ?_) | refine g_b (fun x hx => ?_) | refine g_and ?_ | refine g_c ?_ | refine Both.mk ?_ ?_ | refine NilS.ts ?_ | refine LetE.now ?_ | refine AtD.now ?_ | refine LetC.now ?_ | refine g_some ?_ | refine g_yk ?_ | refine g_nk ?_ | refine g_y ?_ | refine g_f ?_ | refine AtA.mk' ?_ | refine Spl.pd (fun h => ?_) (fun h => ?_) | refine Spl.peq (fun h => ?_) (fun h => ?_) | refine Spl.pne (fun h => ?_) (fun h => ?_) | refine Spl.seq (fun h => ?_) (fun h => ?_) | refine Spl.sne (fun h => ?_) (fun h => ?_) | refine Spl.nt ?_ | refine Spl.mk (fun h => ?_) (fun h => ?_))))
        conv => whnf
        conv in (ldA _ _ _) => tactic => exact ld_sec rfl rfl hl
        rfl
    | false =>
      have hu' : (!x.u) = true := by rw [hu]; rfl
      have he : entS x = zeroS := by unfold entS; rw [hu]; rfl
      rw [he]
      refine FnC.intro ti_ok Tryz.func48 rfl Tryz.ntmps48 Tryz.call48 rfl (Nat.le_of_ble_eq_true rfl) rfl ?_
      (repeat' ((conv => whnf); first | (with_reducible first | refine Spl.tt ?_ | refine Spl.ff ?_) | ((with_reducible refine callE_id ?_); (refine CallE.con ⟨_, hr, ?_⟩)) | with_reducible refine AtA.mk' ?_ | (with_reducible first | refine draw_auto ti_ok mixed (by decide +kernel) ?_ | refine g_i64 ?_ | refine g_u64 ?_ | refine g_u8 ?_ | refine g_iq ?_ | refine g_uq ?_ | refine g_rem ?_ | refine LetN.mk ?_ | refine g_hm ?_ | refine g_hb ?_ | refine g_lit ?_ | refine g_nm8 (fun x hx hu => ?_) | refine g_n8 (fun x hx hu => ?_) | refine g_b8 (fun x hx hu => ?_) | refine g_nm (fun x hx => ?_) | refine g_im (fun x hx => ?_) | refine g_n (fun x hx => ?_) | refine g_b (fun x hx => ?_) | refine g_and ?_ | refine g_c ?_ | refine Both.mk ?_ ?_ | refine NilS.ts ?_ | refine LetE.now ?_ | refine AtD.now ?_ | refine LetC.now ?_ | refine g_some ?_ | refine g_yk ?_ | refine g_nk ?_ | refine g_y ?_ | refine g_f ?_ | refine AtA.mk' ?_ | refine Spl.pd (fun h => ?_) (fun h => ?_) | refine Spl.peq (fun h => ?_) (fun h => ?_) | refine Spl.pne (fun h => ?_) (fun h => ?_) | refine Spl.seq (fun h => ?_) (fun h => ?_) | refine Spl.sne (fun h => ?_) (fun h => ?_) | refine Spl.nt ?_ | refine Spl.mk (fun h => ?_) (fun h => ?_))))
      all_goals rfl
  · rw [if_neg h]
    rw [decide_eq_false h] at hr
    refine FnC.intro ti_ok Tryz.func48 rfl Tryz.ntmps48 Tryz.call48 rfl (Nat.le_of_ble_eq_true rfl) rfl ?_
    (repeat' ((conv => whnf); first | (with_reducible first | refine Spl.tt ?_ | refine Spl.ff ?_) | ((with_reducible refine callE_id ?_); (refine CallE.con ⟨_, hr, ?_⟩)) | with_reducible refine AtA.mk' ?_ | (with_reducible first | refine draw_auto ti_ok mixed (by decide +kernel) ?_ | refine g_i64 ?_ | refine g_u64 ?_ | refine g_u8 ?_ | refine g_iq ?_ | refine g_uq ?_ | refine g_rem ?_ | refine LetN.mk ?_ | refine g_hm ?_ | refine g_hb ?_ | refine g_lit ?_ | refine g_nm8 (fun x hx hu => ?_) | refine g_n8 (fun x hx hu => ?_) | refine g_b8 (fun x hx hu => ?_) | refine g_nm (fun x hx => ?_) | refine g_im (fun x hx => ?_) | refine g_n (fun x hx => ?_) | refine g_b (fun x hx => ?_) | refine g_and ?_ | refine g_c ?_ | refine Both.mk ?_ ?_ | refine NilS.ts ?_ | refine LetE.now ?_ | refine AtD.now ?_ | refine LetC.now ?_ | refine g_some ?_ | refine g_yk ?_ | refine g_nk ?_ | refine g_y ?_ | refine g_f ?_ | refine AtA.mk' ?_ | refine Spl.pd (fun h => ?_) (fun h => ?_) | refine Spl.peq (fun h => ?_) (fun h => ?_) | refine Spl.pne (fun h => ?_) (fun h => ?_) | refine Spl.seq (fun h => ?_) (fun h => ?_) | refine Spl.sne (fun h => ?_) (fun h => ?_) | refine Spl.nt ?_ | refine Spl.mk (fun h => ?_) (fun h => ?_))))
    all_goals rfl
end Go.Proofs.YtfpcclakpklghaaGreatDoor

/- Some bytes of a sector. Conditions: none. -/
namespace Go.Proofs.YtfpcclakpklghaaGreatDoor
open Go.Sy
set_option maxRecDepth 100000
set_option linter.all false
theorem bytes_flat' : ∀ (n : List UInt8), (bytesD n).flatten = encS n
  | [] => rfl
  | b :: n => by show [D.it .u8 b.toNat] ++ (bytesD n).flatten = D.it .u8 b.toNat :: encS n; rw [bytes_flat' n]; rfl
set_option maxHeartbeats 4000000 in
theorem cut_ok (s : List UInt8) (hs : s.length = 32) (n : Nat) (hn : n < 256) : FnC Tryz.prog 46 [.dg 32 (encS s), .d (.it .i64 16), .d (.it .i64 (n : Nat))] (.d (.fs 1 (bytesD (if n ≤ 16 then (s.drop 16).take n else [])))) := by
  have hf := fits_ok 16 (n : Nat)
  by_cases h : n ≤ 16
  · rw [if_pos h]
    rw [decide_eq_true (by omega)] at hf
    refine FnC.intro ti_ok Tryz.func46 rfl Tryz.ntmps46 Tryz.call46 rfl (Nat.le_of_ble_eq_true rfl) rfl ?_
    (repeat' ((conv => whnf); first | (with_reducible first | refine Spl.tt ?_ | refine Spl.ff ?_) | ((with_reducible refine callE_id ?_); first | refine CallE.con ⟨_, hf, ?_⟩ | refine CallE.inl ?_) | with_reducible refine CallI.inl ti_ok i63 rfl ?_ | (with_reducible first | refine draw_auto ti_ok mixed (by decide +kernel) ?_ | refine g_i64 ?_ | refine g_u64 ?_ | refine g_u8 ?_ | refine g_iq ?_ | refine g_uq ?_ | refine g_rem ?_ | refine LetN.mk ?_ | refine g_hm ?_ | refine g_hb ?_ | refine g_lit ?_ | refine g_nm8 (fun x hx hu => ?_) | refine g_n8 (fun x hx hu => ?_) | refine g_b8 (fun x hx hu => ?_) | refine g_nm (fun x hx => ?_) | refine g_im (fun x hx => ?_) | refine g_n (fun x hx => ?_) | refine g_b (fun x hx => ?_) | refine g_and ?_ | refine g_c ?_ | refine Both.mk ?_ ?_ | refine NilS.ts ?_ | refine LetE.now ?_ | refine AtD.now ?_ | refine LetC.now ?_ | refine g_some ?_ | refine g_yk ?_ | refine g_nk ?_ | refine g_y ?_ | refine g_f ?_ | refine AtA.mk' ?_ | refine Spl.pd (fun h => ?_) (fun h => ?_) | refine Spl.peq (fun h => ?_) (fun h => ?_) | refine Spl.pne (fun h => ?_) (fun h => ?_) | refine Spl.seq (fun h => ?_) (fun h => ?_) | refine Spl.sne (fun h => ?_) (fun h => ?_) | refine Spl.nt ?_ | refine Spl.mk (fun h => ?_) (fun h => ?_))))
    have hlen : ((16 + (n : Int)).toNat - Int.toNat 16) = n := by omega
    have hL : ((s.drop 16).take n).length = n := by rw [List.length_take, List.length_drop, hs]; omega
    refine ⟨bytesD ((s.drop 16).take n), ⟨?_, ?_, ?_, ?_, ?_⟩, ?_⟩
    · show 0 + Int.toNat 16 * 1 + ((16 + (n:Int)).toNat - Int.toNat 16) * 1 ≤ 32
      omega
    · show (bytesD ((s.drop 16).take n)).length = ((16 + (n:Int)).toNat - Int.toNat 16)
      rw [hlen]; unfold bytesD; rw [List.length_map, hL]
    · intro x hx
      show x.length = 1
      obtain ⟨b, _, rfl⟩ := List.mem_map.1 hx
      rfl
    · show (((encS s).map AV.d).drop (0 + Int.toNat 16 * 1)).take (((16 + (n:Int)).toNat - Int.toNat 16) * 1) = _
      rw [hlen, bytes_flat', Nat.mul_one]
      unfold encS
      rw [List.map_take, List.map_drop, List.map_take, List.map_drop]; rfl
    · show 0 + ((16 + (n:Int)).toNat - Int.toNat 16) ≤ 1073741824
      omega
    (repeat' ((conv => whnf); first | (with_reducible first | refine Spl.tt ?_ | refine Spl.ff ?_) | (with_reducible first | refine draw_auto ti_ok mixed (by decide +kernel) ?_ | refine g_i64 ?_ | refine g_u64 ?_ | refine g_u8 ?_ | refine g_iq ?_ | refine g_uq ?_ | refine g_rem ?_ | refine LetN.mk ?_ | refine g_hm ?_ | refine g_hb ?_ | refine g_lit ?_ | refine g_nm8 (fun x hx hu => ?_) | refine g_n8 (fun x hx hu => ?_) | refine g_b8 (fun x hx hu => ?_) | refine g_nm (fun x hx => ?_) | refine g_im (fun x hx => ?_) | refine g_n (fun x hx => ?_) | refine g_b (fun x hx => ?_) | refine g_and ?_ | refine g_c ?_ | refine Both.mk ?_ ?_ | refine NilS.ts ?_ | refine LetE.now ?_ | refine AtD.now ?_ | refine LetC.now ?_ | refine g_some ?_ | refine g_yk ?_ | refine g_nk ?_ | refine g_y ?_ | refine g_f ?_ | refine AtA.mk' ?_ | refine Spl.pd (fun h => ?_) (fun h => ?_) | refine Spl.peq (fun h => ?_) (fun h => ?_) | refine Spl.pne (fun h => ?_) (fun h => ?_) | refine Spl.seq (fun h => ?_) (fun h => ?_) | refine Spl.sne (fun h => ?_) (fun h => ?_) | refine Spl.nt ?_ | refine Spl.mk (fun h => ?_) (fun h => ?_))))
    all_goals rfl
  · rw [if_neg h]
    rw [decide_eq_false (by omega)] at hf
    refine FnC.intro ti_ok Tryz.func46 rfl Tryz.ntmps46 Tryz.call46 rfl (Nat.le_of_ble_eq_true rfl) rfl ?_
    (repeat' ((conv => whnf); first | (with_reducible first | refine Spl.tt ?_ | refine Spl.ff ?_) | ((with_reducible refine callE_id ?_); refine CallE.con ⟨_, hf, ?_⟩) | (with_reducible first | refine draw_auto ti_ok mixed (by decide +kernel) ?_ | refine g_i64 ?_ | refine g_u64 ?_ | refine g_u8 ?_ | refine g_iq ?_ | refine g_uq ?_ | refine g_rem ?_ | refine LetN.mk ?_ | refine g_hm ?_ | refine g_hb ?_ | refine g_lit ?_ | refine g_nm8 (fun x hx hu => ?_) | refine g_n8 (fun x hx hu => ?_) | refine g_b8 (fun x hx hu => ?_) | refine g_nm (fun x hx => ?_) | refine g_im (fun x hx => ?_) | refine g_n (fun x hx => ?_) | refine g_b (fun x hx => ?_) | refine g_and ?_ | refine g_c ?_ | refine Both.mk ?_ ?_ | refine NilS.ts ?_ | refine LetE.now ?_ | refine AtD.now ?_ | refine LetC.now ?_ | refine g_some ?_ | refine g_yk ?_ | refine g_nk ?_ | refine g_y ?_ | refine g_f ?_ | refine AtA.mk' ?_ | refine Spl.pd (fun h => ?_) (fun h => ?_) | refine Spl.peq (fun h => ?_) (fun h => ?_) | refine Spl.pne (fun h => ?_) (fun h => ?_) | refine Spl.seq (fun h => ?_) (fun h => ?_) | refine Spl.sne (fun h => ?_) (fun h => ?_) | refine Spl.nt ?_ | refine Spl.mk (fun h => ?_) (fun h => ?_))))
    all_goals (show AV.d (.fs 1 []) = _; rfl)
end Go.Proofs.YtfpcclakpklghaaGreatDoor
