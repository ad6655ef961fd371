/- Contracts of the functions that the law reaches, and the law. Conditions: none. -/
import Derived.Test.YtgldagkdfhabbaaDoorProg
import Derived.Test.YtgldagkdfhabbaaDoorSC
import Derived.KernelRfl
import Derived.Shelf.Strings.Builder1
import Derived.Shelf.Strings.Builder2
import Derived.Shelf.Strings.OnBuilder
import Derived.Shelf.Strings.Search1
import Derived.Shelf.Strings.Search2
import Derived.Shelf.Strings.Search3
import Derived.Shelf.Strings.Count
import Derived.Shelf.LaysM
import Derived.Shelf.Strings.Shaped
import Derived.Shelf.Unicode.DecodeSlow
set_option linter.all false
/- The types of the seat, as the Sym layer reads them. Conditions: none. -/
namespace Go.Proofs.YtgldagkdfhabbaaDoor
open Go.Sy
set_option maxRecDepth 100000
def tyL : List (Nat × Ty) := [
  (0, { kd := .other, size := 1, bytes := 0, zero := [], cmp := .none, pl := [] }),
  (1, { kd := .func, size := 1, bytes := 8, zero := [.ot .nilFunc], cmp := .none, pl := [] }),
  (2, { kd := .int .i64, size := 1, bytes := 8, zero := [.it .i64 0], cmp := .some [.it .i64 0], pl := [] }),
  (3, { kd := .int .i64, size := 1, bytes := 8, zero := [.it .i64 0], cmp := .some [.it .i64 0], pl := [] }),
  (4, { kd := .bool, size := 1, bytes := 1, zero := [.bl Bool.false], cmp := .some [.bl Bool.false], pl := [] }),
  (5, { kd := .int .u8, size := 1, bytes := 1, zero := [.it .u8 0], cmp := .some [.it .u8 0], pl := [] }),
  (6, { kd := .int .u8, size := 1, bytes := 1, zero := [.it .u8 0], cmp := .some [.it .u8 0], pl := [] }),
  (7, { kd := .struct [(0, 2), (1, 3), (2, 4), (3, 6)], size := 4, bytes := 24, zero := [.it .i64 0, .it .i64 0, .bl Bool.false, .it .u8 0], cmp := .some [.it .i64 0, .it .i64 0, .bl Bool.false, .it .u8 0], pl := [(0, 1), (1, 1), (2, 1), (3, 1)] }),
  (8, { kd := .struct [(0, 2), (1, 3), (2, 4), (3, 6)], size := 4, bytes := 24, zero := [.it .i64 0, .it .i64 0, .bl Bool.false, .it .u8 0], cmp := .some [.it .i64 0, .it .i64 0, .bl Bool.false, .it .u8 0], pl := [(0, 1), (1, 1), (2, 1), (3, 1)] }),
  (9, { kd := .string, size := 1, bytes := 16, zero := [.st []], cmp := .some [.st []], pl := [] }),
  (10, { kd := .string, size := 1, bytes := 16, zero := [.st []], cmp := .some [.st []], pl := [] }),
  (11, { kd := .string, size := 1, bytes := 16, zero := [.st []], cmp := .some [.st []], pl := [] }),
  (12, { kd := .int .u64, size := 1, bytes := 8, zero := [.it .u64 0], cmp := .some [.it .u64 0], pl := [] }),
  (13, { kd := .struct [(0, 9), (1, 12)], size := 2, bytes := 24, zero := [.st [], .it .u64 0], cmp := .none, pl := [(0, 1), (1, 1)] }),
  (14, { kd := .struct [(0, 9), (1, 12)], size := 2, bytes := 24, zero := [.st [], .it .u64 0], cmp := .none, pl := [(0, 1), (1, 1)] }),
  (15, { kd := .ptr 99, size := 1, bytes := 8, zero := [.ot (.pointer .none)], cmp := .none, pl := [] }),
  (16, { kd := .ptr 102, size := 1, bytes := 8, zero := [.ot (.pointer .none)], cmp := .none, pl := [] }),
  (17, { kd := .ptr 110, size := 1, bytes := 8, zero := [.ot (.pointer .none)], cmp := .none, pl := [] }),
  (18, { kd := .struct [(0, 17)], size := 1, bytes := 8, zero := [.ot (.pointer .none)], cmp := .none, pl := [(0, 1)] }),
  (19, { kd := .struct [(0, 17)], size := 1, bytes := 8, zero := [.ot (.pointer .none)], cmp := .none, pl := [(0, 1)] }),
  (20, { kd := .other, size := 1, bytes := 16, zero := [.ot .nilIface], cmp := .none, pl := [] }),
  (21, { kd := .int .i32, size := 1, bytes := 4, zero := [.it .i32 0], cmp := .some [.it .i32 0], pl := [] }),
  (22, { kd := .int .u64, size := 1, bytes := 8, zero := [.it .u64 0], cmp := .some [.it .u64 0], pl := [] }),
  (23, { kd := .int .i64, size := 1, bytes := 8, zero := [.it .i64 0], cmp := .some [.it .i64 0], pl := [] }),
  (24, { kd := .struct [(0, 3), (1, 22), (2, 3), (3, 23)], size := 4, bytes := 32, zero := [.it .i64 0, .it .u64 0, .it .i64 0, .it .i64 0], cmp := .some [.it .i64 0, .it .u64 0, .it .i64 0, .it .i64 0], pl := [(0, 1), (1, 1), (2, 1), (3, 1)] }),
  (25, { kd := .struct [(0, 3), (1, 22), (2, 3), (3, 23)], size := 4, bytes := 32, zero := [.it .i64 0, .it .u64 0, .it .i64 0, .it .i64 0], cmp := .some [.it .i64 0, .it .u64 0, .it .i64 0, .it .i64 0], pl := [(0, 1), (1, 1), (2, 1), (3, 1)] }),
  (26, { kd := .struct [(0, 3), (1, 25), (5, 23)], size := 6, bytes := 48, zero := [.it .i64 0, .it .i64 0, .it .u64 0, .it .i64 0, .it .i64 0, .it .i64 0], cmp := .some [.it .i64 0, .it .i64 0, .it .u64 0, .it .i64 0, .it .i64 0, .it .i64 0], pl := [(0, 1), (1, 4), (5, 1)] }),
  (27, { kd := .struct [(0, 3), (1, 25), (5, 23)], size := 6, bytes := 48, zero := [.it .i64 0, .it .i64 0, .it .u64 0, .it .i64 0, .it .i64 0, .it .i64 0], cmp := .some [.it .i64 0, .it .i64 0, .it .u64 0, .it .i64 0, .it .i64 0, .it .i64 0], pl := [(0, 1), (1, 4), (5, 1)] }),
  (28, { kd := .slice 27, size := 1, bytes := 24, zero := [.fs 6 []], cmp := .none, pl := [] }),
  (29, { kd := .func, size := 1, bytes := 8, zero := [.ot .nilFunc], cmp := .none, pl := [] }),
  (30, { kd := .other, size := 1, bytes := 0, zero := [], cmp := .none, pl := [] }),
  (31, { kd := .func, size := 1, bytes := 8, zero := [.ot .nilFunc], cmp := .none, pl := [] }),
  (32, { kd := .other, size := 1, bytes := 0, zero := [], cmp := .none, pl := [] }),
  (33, { kd := .func, size := 1, bytes := 8, zero := [.ot .nilFunc], cmp := .none, pl := [] }),
  (34, { kd := .func, size := 1, bytes := 8, zero := [.ot .nilFunc], cmp := .none, pl := [] }),
  (35, { kd := .func, size := 1, bytes := 8, zero := [.ot .nilFunc], cmp := .none, pl := [] }),
  (36, { kd := .func, size := 1, bytes := 8, zero := [.ot .nilFunc], cmp := .none, pl := [] }),
  (37, { kd := .slice 45, size := 1, bytes := 24, zero := [.fs 6 []], cmp := .none, pl := [] }),
  (38, { kd := .struct [(0, 3), (1, 37)], size := 2, bytes := 32, zero := [.it .i64 0, .fs 6 []], cmp := .none, pl := [(0, 1), (1, 1)] }),
  (39, { kd := .struct [(0, 3), (1, 37)], size := 2, bytes := 32, zero := [.it .i64 0, .fs 6 []], cmp := .none, pl := [(0, 1), (1, 1)] }),
  (40, { kd := .slice 44, size := 1, bytes := 24, zero := [.fs 6 []], cmp := .none, pl := [] }),
  (41, { kd := .struct [(0, 3), (1, 40)], size := 2, bytes := 32, zero := [.it .i64 0, .fs 6 []], cmp := .none, pl := [(0, 1), (1, 1)] }),
  (42, { kd := .struct [(0, 3), (1, 40)], size := 2, bytes := 32, zero := [.it .i64 0, .fs 6 []], cmp := .none, pl := [(0, 1), (1, 1)] }),
  (43, { kd := .struct [(0, 4), (1, 25), (5, 23)], size := 6, bytes := 48, zero := [.bl Bool.false, .it .i64 0, .it .u64 0, .it .i64 0, .it .i64 0, .it .i64 0], cmp := .some [.bl Bool.false, .it .i64 0, .it .u64 0, .it .i64 0, .it .i64 0, .it .i64 0], pl := [(0, 1), (1, 4), (5, 1)] }),
  (44, { kd := .struct [(0, 4), (1, 25), (5, 23)], size := 6, bytes := 48, zero := [.bl Bool.false, .it .i64 0, .it .u64 0, .it .i64 0, .it .i64 0, .it .i64 0], cmp := .some [.bl Bool.false, .it .i64 0, .it .u64 0, .it .i64 0, .it .i64 0, .it .i64 0], pl := [(0, 1), (1, 4), (5, 1)] }),
  (45, { kd := .struct [(0, 4), (1, 25), (5, 23)], size := 6, bytes := 48, zero := [.bl Bool.false, .it .i64 0, .it .u64 0, .it .i64 0, .it .i64 0, .it .i64 0], cmp := .some [.bl Bool.false, .it .i64 0, .it .u64 0, .it .i64 0, .it .i64 0, .it .i64 0], pl := [(0, 1), (1, 4), (5, 1)] }),
  (46, { kd := .func, size := 1, bytes := 8, zero := [.ot .nilFunc], cmp := .none, pl := [] }),
  (47, { kd := .func, size := 1, bytes := 8, zero := [.ot .nilFunc], cmp := .none, pl := [] }),
  (48, { kd := .func, size := 1, bytes := 8, zero := [.ot .nilFunc], cmp := .none, pl := [] }),
  (49, { kd := .func, size := 1, bytes := 8, zero := [.ot .nilFunc], cmp := .none, pl := [] }),
  (50, { kd := .func, size := 1, bytes := 8, zero := [.ot .nilFunc], cmp := .none, pl := [] }),
  (51, { kd := .slice 9, size := 1, bytes := 24, zero := [.fs 1 []], cmp := .none, pl := [] }),
  (52, { kd := .func, size := 1, bytes := 8, zero := [.ot .nilFunc], cmp := .none, pl := [] }),
  (53, { kd := .func, size := 1, bytes := 8, zero := [.ot .nilFunc], cmp := .none, pl := [] }),
  (54, { kd := .func, size := 1, bytes := 8, zero := [.ot .nilFunc], cmp := .none, pl := [] }),
  (55, { kd := .func, size := 1, bytes := 8, zero := [.ot .nilFunc], cmp := .none, pl := [] }),
  (56, { kd := .func, size := 1, bytes := 8, zero := [.ot .nilFunc], cmp := .none, pl := [] }),
  (57, { kd := .other, size := 1, bytes := 0, zero := [], cmp := .none, pl := [] }),
  (58, { kd := .func, size := 1, bytes := 8, zero := [.ot .nilFunc], cmp := .none, pl := [] }),
  (59, { kd := .func, size := 1, bytes := 8, zero := [.ot .nilFunc], cmp := .none, pl := [] }),
  (60, { kd := .other, size := 1, bytes := 0, zero := [], cmp := .none, pl := [] }),
  (61, { kd := .func, size := 1, bytes := 8, zero := [.ot .nilFunc], cmp := .none, pl := [] }),
  (62, { kd := .func, size := 1, bytes := 8, zero := [.ot .nilFunc], cmp := .none, pl := [] }),
  (63, { kd := .func, size := 1, bytes := 8, zero := [.ot .nilFunc], cmp := .none, pl := [] }),
  (64, { kd := .func, size := 1, bytes := 8, zero := [.ot .nilFunc], cmp := .none, pl := [] }),
  (65, { kd := .arr 18 9, size := 18, bytes := 288, zero := [.st [], .st [], .st [], .st [], .st [], .st [], .st [], .st [], .st [], .st [], .st [], .st [], .st [], .st [], .st [], .st [], .st [], .st []], cmp := .some [.st [], .st [], .st [], .st [], .st [], .st [], .st [], .st [], .st [], .st [], .st [], .st [], .st [], .st [], .st [], .st [], .st [], .st []], pl := [] }),
  (66, { kd := .func, size := 1, bytes := 8, zero := [.ot .nilFunc], cmp := .none, pl := [] }),
  (67, { kd := .arr 20 5, size := 20, bytes := 20, zero := [.it .u8 0, .it .u8 0, .it .u8 0, .it .u8 0, .it .u8 0, .it .u8 0, .it .u8 0, .it .u8 0, .it .u8 0, .it .u8 0, .it .u8 0, .it .u8 0, .it .u8 0, .it .u8 0, .it .u8 0, .it .u8 0, .it .u8 0, .it .u8 0, .it .u8 0, .it .u8 0], cmp := .some [.it .u8 0, .it .u8 0, .it .u8 0, .it .u8 0, .it .u8 0, .it .u8 0, .it .u8 0, .it .u8 0, .it .u8 0, .it .u8 0, .it .u8 0, .it .u8 0, .it .u8 0, .it .u8 0, .it .u8 0, .it .u8 0, .it .u8 0, .it .u8 0, .it .u8 0, .it .u8 0], pl := [] }),
  (68, { kd := .slice 5, size := 1, bytes := 24, zero := [.fs 1 []], cmp := .none, pl := [] }),
  (69, { kd := .ptr 71, size := 1, bytes := 8, zero := [.ot (.pointer .none)], cmp := .none, pl := [] }),
  (70, { kd := .struct [(0, 69), (1, 68)], size := 2, bytes := 32, zero := [.ot (.pointer .none), .fs 1 []], cmp := .none, pl := [(0, 1), (1, 1)] }),
  (71, { kd := .struct [(0, 69), (1, 68)], size := 2, bytes := 32, zero := [.ot (.pointer .none), .fs 1 []], cmp := .none, pl := [(0, 1), (1, 1)] }),
  (72, { kd := .func, size := 1, bytes := 8, zero := [.ot .nilFunc], cmp := .none, pl := [] }),
  (73, { kd := .other, size := 1, bytes := 16, zero := [.ot .nilIface], cmp := .none, pl := [] }),
  (74, { kd := .other, size := 1, bytes := 16, zero := [.ot .nilIface], cmp := .none, pl := [] }),
  (75, { kd := .other, size := 1, bytes := 0, zero := [], cmp := .none, pl := [] }),
  (76, { kd := .func, size := 1, bytes := 8, zero := [.ot .nilFunc], cmp := .none, pl := [] }),
  (77, { kd := .func, size := 1, bytes := 8, zero := [.ot .nilFunc], cmp := .none, pl := [] }),
  (78, { kd := .func, size := 1, bytes := 8, zero := [.ot .nilFunc], cmp := .none, pl := [] }),
  (79, { kd := .ptr 5, size := 1, bytes := 8, zero := [.ot (.pointer .none)], cmp := .none, pl := [] }),
  (80, { kd := .func, size := 1, bytes := 8, zero := [.ot .nilFunc], cmp := .none, pl := [] }),
  (81, { kd := .func, size := 1, bytes := 8, zero := [.ot .nilFunc], cmp := .none, pl := [] }),
  (82, { kd := .other, size := 1, bytes := 8, zero := [.ot (.pointer .none)], cmp := .none, pl := [] }),
  (83, { kd := .func, size := 1, bytes := 8, zero := [.ot .nilFunc], cmp := .none, pl := [] }),
  (84, { kd := .func, size := 1, bytes := 8, zero := [.ot .nilFunc], cmp := .none, pl := [] }),
  (85, { kd := .func, size := 1, bytes := 8, zero := [.ot .nilFunc], cmp := .none, pl := [] }),
  (86, { kd := .other, size := 1, bytes := 0, zero := [], cmp := .none, pl := [] }),
  (87, { kd := .func, size := 1, bytes := 8, zero := [.ot .nilFunc], cmp := .none, pl := [] }),
  (88, { kd := .func, size := 1, bytes := 8, zero := [.ot .nilFunc], cmp := .none, pl := [] }),
  (89, { kd := .func, size := 1, bytes := 8, zero := [.ot .nilFunc], cmp := .none, pl := [] }),
  (90, { kd := .int .u64, size := 1, bytes := 8, zero := [.it .u64 0], cmp := .some [.it .u64 0], pl := [] }),
  (92, { kd := .struct [(0, 5), (1, 5)], size := 2, bytes := 2, zero := [.it .u8 0, .it .u8 0], cmp := .some [.it .u8 0, .it .u8 0], pl := [(0, 1), (1, 1)] }),
  (93, { kd := .struct [(0, 5), (1, 5)], size := 2, bytes := 2, zero := [.it .u8 0, .it .u8 0], cmp := .some [.it .u8 0, .it .u8 0], pl := [(0, 1), (1, 1)] }),
  (94, { kd := .arr 16 93, size := 32, bytes := 32, zero := [.it .u8 0, .it .u8 0, .it .u8 0, .it .u8 0, .it .u8 0, .it .u8 0, .it .u8 0, .it .u8 0, .it .u8 0, .it .u8 0, .it .u8 0, .it .u8 0, .it .u8 0, .it .u8 0, .it .u8 0, .it .u8 0, .it .u8 0, .it .u8 0, .it .u8 0, .it .u8 0, .it .u8 0, .it .u8 0, .it .u8 0, .it .u8 0, .it .u8 0, .it .u8 0, .it .u8 0, .it .u8 0, .it .u8 0, .it .u8 0, .it .u8 0, .it .u8 0], cmp := .some [.it .u8 0, .it .u8 0, .it .u8 0, .it .u8 0, .it .u8 0, .it .u8 0, .it .u8 0, .it .u8 0, .it .u8 0, .it .u8 0, .it .u8 0, .it .u8 0, .it .u8 0, .it .u8 0, .it .u8 0, .it .u8 0, .it .u8 0, .it .u8 0, .it .u8 0, .it .u8 0, .it .u8 0, .it .u8 0, .it .u8 0, .it .u8 0, .it .u8 0, .it .u8 0, .it .u8 0, .it .u8 0, .it .u8 0, .it .u8 0, .it .u8 0, .it .u8 0], pl := [] }),
  (95, { kd := .int .u32, size := 1, bytes := 4, zero := [.it .u32 0], cmp := .some [.it .u32 0], pl := [] }),
  (96, { kd := .other, size := 1, bytes := 0, zero := [], cmp := .none, pl := [] }),
  (97, { kd := .func, size := 1, bytes := 8, zero := [.ot .nilFunc], cmp := .none, pl := [] }),
  (98, { kd := .struct [(0, 17), (1, 17), (2, 17), (3, 9)], size := 4, bytes := 40, zero := [.ot (.pointer .none), .ot (.pointer .none), .ot (.pointer .none), .st []], cmp := .none, pl := [(0, 1), (1, 1), (2, 1), (3, 1)] }),
  (99, { kd := .struct [(0, 17), (1, 17), (2, 17), (3, 9)], size := 4, bytes := 40, zero := [.ot (.pointer .none), .ot (.pointer .none), .ot (.pointer .none), .st []], cmp := .none, pl := [(0, 1), (1, 1), (2, 1), (3, 1)] }),
  (100, { kd := .arr 0 16, size := 0, bytes := 0, zero := [], cmp := .none, pl := [] }),
  (101, { kd := .struct [(0, 100)], size := 0, bytes := 0, zero := [], cmp := .none, pl := [(0, 0)] }),
  (102, { kd := .struct [(0, 100)], size := 0, bytes := 0, zero := [], cmp := .none, pl := [(0, 0)] }),
  (103, { kd := .func, size := 1, bytes := 8, zero := [.ot .nilFunc], cmp := .none, pl := [] }),
  (104, { kd := .int .u8, size := 1, bytes := 1, zero := [.it .u8 0], cmp := .some [.it .u8 0], pl := [] }),
  (105, { kd := .int .u8, size := 1, bytes := 1, zero := [.it .u8 0], cmp := .some [.it .u8 0], pl := [] }),
  (106, { kd := .func, size := 1, bytes := 8, zero := [.ot .nilFunc], cmp := .none, pl := [] }),
  (107, { kd := .int .i32, size := 1, bytes := 4, zero := [.it .i32 0], cmp := .some [.it .i32 0], pl := [] }),
  (108, { kd := .int .i32, size := 1, bytes := 4, zero := [.it .i32 0], cmp := .some [.it .i32 0], pl := [] }),
  (109, { kd := .struct [(0, 12), (1, 12), (2, 95), (3, 104), (4, 5), (5, 5), (6, 105), (7, 106), (8, 79), (9, 107), (10, 108)], size := 11, bytes := 48, zero := [.it .u64 0, .it .u64 0, .it .u32 0, .it .u8 0, .it .u8 0, .it .u8 0, .it .u8 0, .ot .nilFunc, .ot (.pointer .none), .it .i32 0, .it .i32 0], cmp := .none, pl := [(0, 1), (1, 1), (2, 1), (3, 1), (4, 1), (5, 1), (6, 1), (7, 1), (8, 1), (9, 1), (10, 1)] }),
  (110, { kd := .struct [(0, 12), (1, 12), (2, 95), (3, 104), (4, 5), (5, 5), (6, 105), (7, 106), (8, 79), (9, 107), (10, 108)], size := 11, bytes := 48, zero := [.it .u64 0, .it .u64 0, .it .u32 0, .it .u8 0, .it .u8 0, .it .u8 0, .it .u8 0, .ot .nilFunc, .ot (.pointer .none), .it .i32 0, .it .i32 0], cmp := .none, pl := [(0, 1), (1, 1), (2, 1), (3, 1), (4, 1), (5, 1), (6, 1), (7, 1), (8, 1), (9, 1), (10, 1)] })]
def ti (t : Nat) : Option Ty := Go.Sy.look t tyL
theorem tyL_ok : tyL.map (fun p => tyOf Tryd.prog p.1) = tyL.map (fun p => some p.2) := by kernel_rfl
theorem ti_ok : TiOK Tryd.prog ti := tiOK_of tyL_ok
theorem mixed : Tryd.prog.follows .mixedOrders = true := by kernel_rfl
end Go.Proofs.YtgldagkdfhabbaaDoor

namespace Go.Proofs.YtgldagkdfhabbaaDoor
open Go.Sy
set_option maxRecDepth 100000
def words : List (List UInt8) := [[111, 107], [97, 114, 103], [102, 117, 108, 108], [105, 111], [110, 111, 110, 101], [116, 104, 101, 114, 101], [107, 105, 110, 100], [98, 117, 115, 121], [102, 111, 114, 109], [110, 97, 109, 101], [102, 117, 101, 108], [116, 121, 112, 101], [115, 121, 110, 116, 97, 120], [98, 111, 117, 110, 100], [108, 105, 109, 105, 116], [102, 97, 105, 108]]
def errS (e : Int) : List UInt8 := if 0 ≤ e ∧ e < 16 then words.getD e.toNat [] else [63]
def words18 : List D := [.st [111, 107], .st [97, 114, 103], .st [102, 117, 108, 108], .st [105, 111], .st [110, 111, 110, 101], .st [116, 104, 101, 114, 101], .st [107, 105, 110, 100], .st [98, 117, 115, 121], .st [102, 111, 114, 109], .st [110, 97, 109, 101], .st [102, 117, 101, 108], .st [116, 121, 112, 101], .st [115, 121, 110, 116, 97, 120], .st [98, 111, 117, 110, 100], .st [108, 105, 109, 105, 116], .st [102, 97, 105, 108], .st [], .st []]

theorem head_ok (e : Int) : FnC Tryd.prog 17 [.d (.it .i64 e)] (.d (.st (if e = 1 then [107, 105, 108, 108, 101, 100] else if e = 2 then [105, 110, 99, 111, 110, 99, 108, 117, 115, 105, 118, 101] else [115, 117, 114, 118, 105, 118, 101, 100]))) := by
  refine FnC.intro ti_ok Tryd.func17 rfl Tryd.ntmps17 Tryd.call17 rfl (Nat.le_of_ble_eq_true rfl) rfl ?_
  repeat' (conv => whnf
           first | with_reducible refine LetI.mk ?_ | with_reducible refine LetN.mk ?_ | with_reducible refine Spl.tt ?_ | with_reducible refine Spl.ff ?_ | with_reducible refine Spl.mk (fun h => ?_) (fun h => ?_))
  all_goals (refine st_eq ?_; simp_all)

theorem pick_ok (k : Int) : FnC Tryd.prog 31 [.dg 18 words18, .d (.it .i64 k)] (.d (.st (errS k))) := by
  refine FnC.intro ti_ok Tryd.func31 rfl Tryd.ntmps31 Tryd.call31 rfl (Nat.le_of_ble_eq_true rfl) rfl ?_
  by_cases h0 : k < 0
  · conv => whnf
    refine Spl.mk (fun h => ?_) (fun h => ?_)
    · repeat' (conv => whnf
               first | with_reducible refine LetI.mk ?_ | with_reducible refine LetN.mk ?_ | with_reducible refine Spl.tt ?_ | with_reducible refine Spl.ff ?_)
      refine st_eq ?_
      rw [errS, if_neg (by omega)]
    · simp_all
  by_cases h18 : k < 18
  · obtain ⟨n, rfl⟩ : ∃ n : Nat, k = n := ⟨k.toNat, by omega⟩
    have hn : n < 18 := by omega
    clear h0 h18
    iterate 18 (rcases n with _ | n
                · repeat' (conv => whnf
                           first | with_reducible refine LetI.mk ?_ | with_reducible refine LetN.mk ?_ | refine Spl.tt ?_ | refine Spl.ff ?_ | (with_reducible refine And.intro ?_ ?_; exact ⟨by decide, by decide⟩))
                  exact st_eq rfl)
    omega
  · repeat' (conv => whnf
             first | with_reducible refine LetI.mk ?_ | with_reducible refine LetN.mk ?_ | with_reducible refine Spl.tt ?_ | with_reducible refine Spl.ff ?_ | with_reducible refine Spl.mk (fun h => ?_) (fun h => ?_))
    all_goals first | (refine st_eq ?_; rw [errS, if_neg (by omega)]) | skip
    all_goals simp_all
end Go.Proofs.YtgldagkdfhabbaaDoor

namespace Go.Proofs.YtgldagkdfhabbaaDoor
open Go.Sy
set_option maxRecDepth 100000
theorem err_ok (e : Int) : FnC Tryd.prog 18 [.d (.it .i64 e)] (.d (.st (errS e))) := by
  refine FnC.intro ti_ok Tryd.func18 rfl Tryd.ntmps18 Tryd.call18 rfl (Nat.le_of_ble_eq_true rfl) rfl ?_
  refine CallP.mk ⟨_, pick_ok e, ?_⟩
  exact rfl

theorem refErr_ok (e : Int) : FnC Tryd.prog 21 [.d (.it .i64 e)] (.d (.st (errS e))) := by
  refine FnC.intro ti_ok Tryd.func21 rfl Tryd.ntmps21 Tryd.call21 rfl (Nat.le_of_ble_eq_true rfl) rfl ?_
  by_cases h0 : e < 0
  · conv => whnf
    refine Spl.mk (fun h => ?_) (fun h => ?_)
    · repeat' (conv => whnf
               first | with_reducible refine LetI.mk ?_ | with_reducible refine LetN.mk ?_ | with_reducible refine Spl.tt ?_ | with_reducible refine Spl.ff ?_)
      refine st_eq ?_
      rw [errS, if_neg (by omega)]
    · simp_all
  by_cases h18 : e < 16
  · obtain ⟨n, rfl⟩ : ∃ n : Nat, e = n := ⟨e.toNat, by omega⟩
    have hn : n < 16 := by omega
    clear h0 h18
    iterate 16 (rcases n with _ | n
                · repeat' (conv => whnf
                           first | with_reducible refine LetI.mk ?_ | with_reducible refine LetN.mk ?_ | refine Spl.tt ?_ | refine Spl.ff ?_ | (with_reducible refine at_list (k := _) rfl ?_))
                  exact st_eq rfl)
    omega
  · repeat' (conv => whnf
             first | with_reducible refine LetI.mk ?_ | with_reducible refine LetN.mk ?_ | with_reducible refine Spl.tt ?_ | with_reducible refine Spl.ff ?_ | with_reducible refine Spl.mk (fun h => ?_) (fun h => ?_))
    all_goals first | (refine st_eq ?_; rw [errS, if_neg (by omega)]) | skip
    all_goals first | (exfalso; have h' : decide (e < (0 : Int)) = true := h; simp at h'; omega) | (exfalso; have h' : decide (e ≥ (16 : Int)) = false := h; simp at h'; omega) | skip
end Go.Proofs.YtgldagkdfhabbaaDoor

namespace Go.Proofs.YtgldagkdfhabbaaDoor
open Go.Sy
set_option maxRecDepth 100000
structure Cel where
  says : Int
  p : Int
  k : Int
  v : Int
  e : Int
  lim : Int
  deriving DecidableEq
def encW (c : Cel) : List D := [.it .i64 c.p, .it .u64 c.k, .it .i64 c.v, .it .i64 c.e]
def encC (c : Cel) : List D := [.it .i64 c.says, .it .i64 c.p, .it .u64 c.k, .it .i64 c.v, .it .i64 c.e, .it .i64 c.lim]
def limB (e : Int) : Bool := e == 10 || e == 13 || e == 14
def witB (c : Cel) : Bool := !(c.p < 0 || c.p > 1000000 || c.k ≥ 65536) && ((c.v == 1 && c.e == 0) || (c.v == 2 && 1 ≤ c.e && c.e ≤ 15 && c.e != 10))
def rightB (c : Cel) : Bool :=
  if c.says = 0 then c.p == 0 && c.k == 0 && c.v == 0 && c.e == 0 && c.lim == 0
  else if c.says = 1 then c.lim == 0 && witB c
  else if c.says = 2 then (c.p == 0 && c.k == 0 && c.v == 0 && c.e == 0) && limB c.lim
  else false

theorem limit_ok (e : Int) : FnC Tryd.prog 30 [.d (.it .i64 e)] (.d (.bl (limB e))) := by
  refine FnC.intro ti_ok Tryd.func30 rfl Tryd.ntmps30 Tryd.call30 rfl (Nat.le_of_ble_eq_true rfl) rfl ?_
  repeat' (conv => whnf
           first | with_reducible refine LetI.mk ?_ | with_reducible refine LetN.mk ?_ | with_reducible refine Spl.tt ?_ | with_reducible refine Spl.ff ?_ | with_reducible refine Spl.mk (fun h => ?_) (fun h => ?_))
  all_goals (refine bl_eq ?_; simp_all [limB])

theorem witness_ok (c : Cel) : FnC Tryd.prog 29 [.dg 4 (encW c)] (.d (.bl (witB c))) := by
  refine FnC.intro ti_ok Tryd.func29 rfl Tryd.ntmps29 Tryd.call29 rfl (Nat.le_of_ble_eq_true rfl) rfl ?_
  repeat' (conv => whnf
           first | with_reducible refine LetI.mk ?_ | with_reducible refine LetN.mk ?_ | with_reducible refine Spl.tt ?_ | with_reducible refine Spl.ff ?_ | with_reducible refine Spl.mk (fun h => ?_) (fun h => ?_))
  all_goals (refine bl_eq ?_; rw [Bool.eq_iff_iff]; simp [witB] at *; omega)

theorem right_ok (c : Cel) : FnC Tryd.prog 10 [.dg 6 (encC c)] (.d (.bl (rightB c))) := by
  refine FnC.intro ti_ok Tryd.func10 rfl Tryd.ntmps10 Tryd.call10 rfl (Nat.le_of_ble_eq_true rfl) rfl ?_
  repeat' (conv => whnf
           first | with_reducible refine LetI.mk ?_ | with_reducible refine LetN.mk ?_ | with_reducible refine Spl.tt ?_ | with_reducible refine Spl.ff ?_ | with_reducible refine Spl.mk (fun h => ?_) (fun h => ?_) | refine CallP.mk ⟨_, witness_ok c, ?_⟩ | refine CallP.mk ⟨_, limit_ok _, ?_⟩)
  all_goals (refine bl_eq ?_; rw [Bool.eq_iff_iff]; simp_all [rightB, eqDs, eqD, and_assoc])

theorem refRight_ok (c : Cel) : FnC Tryd.prog 11 [.dg 6 (encC c)] (.d (.bl (rightB c))) := by
  refine FnC.intro ti_ok Tryd.func11 rfl Tryd.ntmps11 Tryd.call11 rfl (Nat.le_of_ble_eq_true rfl) rfl ?_
  repeat' (conv => whnf
           first | with_reducible refine LetI.mk ?_ | with_reducible refine LetN.mk ?_ | with_reducible refine Spl.tt ?_ | with_reducible refine Spl.ff ?_ | with_reducible refine Spl.mk (fun h => ?_) (fun h => ?_))
  all_goals (refine bl_eq ?_; rw [Bool.eq_iff_iff]; simp [rightB, eqDs, eqD, witB, limB] at *)
  all_goals first | (simp_all [and_assoc]; done) | (simp_all; omega) | omega | skip
  all_goals trace_state
end Go.Proofs.YtgldagkdfhabbaaDoor

namespace Go.Proofs.YtgldagkdfhabbaaDoor
open Go.Sy
set_option maxRecDepth 100000
def sumS (s : Int) (c : Cel) : Int := if c.says = 1 ∨ (c.says = 2 ∧ s = 0) then c.says else s
def sumT (s : Int) (c : Cel) : Int := if c.says = 2 then (if s = 1 then s else 2) else if c.says = 1 then 1 else s
def sum (l : List Cel) : Int := l.foldl sumS 0
def sum1 (l : List Cel) : Int := l.foldl sumT 0
theorem sum_eq (l : List Cel) : sum1 l = sum l := by
  have : ∀ (l : List Cel) (s : Int), (s = 0 ∨ s = 1 ∨ s = 2) → l.foldl sumT s = l.foldl sumS s := by
    intro l
    induction l with
    | nil => intro s _; rfl
    | cons c t ih =>
      intro s hs
      simp only [List.foldl_cons]
      have e : sumT s c = sumS s c := by
        simp only [sumT, sumS]
        repeat' split
        all_goals omega
      rw [e]
      refine ih _ ?_
      rw [← e]; simp only [sumT]; repeat' split
      all_goals omega
  exact this l 0 (.inl rfl)
theorem fold_snoc {α β : Type} {f : β → α → β} {b : β} {l : List α} {k : Nat} {x : α} (h : l[k]? = some x) : (l.take (k + 1)).foldl f b = f ((l.take k).foldl f b) x := by
  rw [take_snoc h, List.foldl_append]; rfl

theorem refSum_ok (l : List Cel) (hl : l.length < 1000000) : FnC Tryd.prog 13 [.d (.fs 6 (l.map encC))] (.d (.it .i64 (sum l))) := by
  refine FnC.intro ti_ok Tryd.func13 rfl Tryd.ntmps13 Tryd.call13 rfl (Nat.le_of_ble_eq_true rfl) rfl ?_
  refine loop_rule ti_ok (fun k : Nat => k ≤ l.length) (fun k => ⟨[(0, .d (.fs 6 (l.map encC))), (3, .d (.it .i64 (sum (l.take k)))), (4, .d (.it .i64 k))], [], 0⟩) (fun k => l.length - k) 0 (Nat.zero_le _) ⟨⟨rfl, rfl, rfl, trivial⟩, trivial, rfl⟩ ?_
  intro k hk
  refine Spl.mk (fun h => ?_) (fun h => ?_)
  · have hk' : k < l.length := by simpa using h
    have hw := wrap_succ hk' (by omega)
    obtain ⟨x, hx⟩ := lt_get hk'
    have hs : sum (l.take (k + 1)) = sumS (sum (l.take k)) x := fold_snoc hx
    have hm : l.length - (k + 1) < l.length - k := by omega
    repeat' (conv => whnf
             first | with_reducible refine LetI.mk ?_ | with_reducible refine LetN.mk ?_ | with_reducible refine Spl.tt ?_ | with_reducible refine Spl.ff ?_ | with_reducible refine at_known hx ?_ | with_reducible refine Spl.mk (fun h => ?_) (fun h => ?_))
    all_goals refine again (k + 1) hk' hm (And.intro rfl (And.intro (it_eq ?_) (And.intro (it_eq hw) trivial))) trivial rfl
    all_goals simp_all [sumS]
  · have hk' : k = l.length := by
      have : ¬ k < l.length := by simpa using h
      omega
    subst hk'
    refine it_eq ?_
    rw [List.take_length]

theorem sum_ok (l : List Cel) (hl : l.length < 1000000) : FnC Tryd.prog 12 [.d (.fs 6 (l.map encC))] (.d (.it .i64 (sum l))) := by
  rw [← sum_eq]
  refine FnC.intro ti_ok Tryd.func12 rfl Tryd.ntmps12 Tryd.call12 rfl (Nat.le_of_ble_eq_true rfl) rfl ?_
  refine loop_rule ti_ok (fun k : Nat => k ≤ l.length) (fun k => ⟨[(6, .d (.fs 6 (l.map encC))), (7, .d (.it .i64 l.length)), (3, .d (.it .i64 (sum1 (l.take k)))), (8, .d (.it .i64 k))], [], 0⟩) (fun k => l.length - k) 0 (Nat.zero_le _) ⟨⟨rfl, it_eq (by simp), rfl, rfl, trivial⟩, trivial, rfl⟩ ?_
  intro k hk
  refine Spl.mk (fun h => ?_) (fun h => ?_)
  · have hk' : k < l.length := by simpa using h
    have hw := wrap_succ hk' (by omega)
    obtain ⟨x, hx⟩ := lt_get hk'
    have hs : sum1 (l.take (k + 1)) = sumT (sum1 (l.take k)) x := fold_snoc hx
    have hm : l.length - (k + 1) < l.length - k := by omega
    repeat' (conv => whnf
             first | with_reducible refine LetI.mk ?_ | with_reducible refine LetN.mk ?_ | with_reducible refine Spl.tt ?_ | with_reducible refine Spl.ff ?_ | with_reducible refine at_known hx ?_ | with_reducible refine Spl.mk (fun h => ?_) (fun h => ?_))
    all_goals refine again (k + 1) hk' hm (And.intro rfl (And.intro rfl (And.intro (it_eq ?_) (And.intro (it_eq hw) trivial)))) trivial rfl
    all_goals simp_all [sumT]
  · have hk' : k = l.length := by
      have : ¬ k < l.length := by simpa using h
      omega
    subst hk'
    refine it_eq ?_
    rw [List.take_length]

def sameB (a b : List Cel) : Bool := a == b
end Go.Proofs.YtgldagkdfhabbaaDoor

namespace Go.Proofs.YtgldagkdfhabbaaDoor
open Go.Sy
set_option maxRecDepth 100000
theorem eq_cells (x y : Cel) : eqDs (encC x) (encC y) = (x == y) := by
  cases x; cases y
  rw [Bool.eq_iff_iff]
  simp [encC, eqDs, eqD, and_assoc]
theorem same_ok (a b : List Cel) (ha : a.length < 1000000) (hb : b.length < 1000000) : FnC Tryd.prog 14 [.d (.fs 6 (a.map encC)), .d (.fs 6 (b.map encC))] (.d (.bl (a == b))) := by
  refine FnC.intro ti_ok Tryd.func14 rfl Tryd.ntmps14 Tryd.call14 rfl (Nat.le_of_ble_eq_true rfl) rfl ?_
  conv => whnf
  refine Spl.mk (fun h => ?_) (fun h => ?_)
  · refine bl_eq ?_
    have h' : a.length ≠ b.length := by simp at h; omega
    rw [eq_comm, Bool.eq_false_iff]
    intro he
    exact h' (by rw [eq_of_beq he])
  have hl : a.length = b.length := by simp at h; omega
  refine loop_rule ti_ok (fun k : Nat => k ≤ a.length ∧ a.take k = b.take k) (fun k => ⟨[(0, .d (.fs 6 (a.map encC))), (1, .d (.fs 6 (b.map encC))), (5, .d (.it .i64 k))], [], 0⟩) (fun k => a.length - k) 0 ⟨Nat.zero_le _, rfl⟩ ⟨⟨rfl, rfl, rfl, trivial⟩, trivial, rfl⟩ ?_
  intro k ⟨hk, he⟩
  refine Spl.mk (fun h => ?_) (fun h => ?_)
  · have hk' : k < a.length := by simpa using h
    have hw := wrap_succ hk' (by omega)
    obtain ⟨x, hx⟩ := lt_get hk'
    obtain ⟨y, hy⟩ := lt_get (l := b) (k := k) (by omega)
    have hm : a.length - (k + 1) < a.length - k := by omega
    refine draw_rule ti_ok mixed 9 rfl ?_
    repeat' (conv => whnf
             first | with_reducible refine LetI.mk ?_ | with_reducible refine LetN.mk ?_ | with_reducible refine Spl.tt ?_ | with_reducible refine Spl.ff ?_ | with_reducible refine at_known hx ?_ | with_reducible refine at_known hy ?_ | with_reducible refine Spl.mk (fun h => ?_) (fun h => ?_))
    · rename_i h
      refine bl_eq ?_
      have h' : ¬ x = y := by
        have : (!eqDs (encC x) (encC y)) = true := h
        rw [eq_cells] at this
        simpa using this
      rw [eq_comm, Bool.eq_false_iff]
      intro hab
      have := eq_of_beq hab
      subst this
      rw [hx] at hy
      exact h' (Option.some.inj hy)
    · rename_i h
      have h' : x = y := by
        have : (!eqDs (encC x) (encC y)) = false := h
        rw [eq_cells] at this
        simpa using this
      subst h'
      exact again (k + 1) ⟨hk', by rw [take_snoc hx, take_snoc hy, he]⟩ hm (And.intro rfl (And.intro rfl (And.intro (it_eq hw) trivial))) trivial rfl
  · have hk' : k = a.length := by
      have : ¬ k < a.length := by simpa using h
      omega
    subst hk'
    refine bl_eq ?_
    rw [List.take_length, hl, List.take_length] at he
    subst he
    simp
end Go.Proofs.YtgldagkdfhabbaaDoor

namespace Go.Proofs.YtgldagkdfhabbaaDoor
open Go.Sy
set_option maxRecDepth 100000
def digN (m : Nat) : List UInt8 := if h : m < 10 then [UInt8.ofNat (48 + m)] else digN (m / 10) ++ [UInt8.ofNat (48 + m % 10)]
termination_by m
decreasing_by omega
def dig (n : Int) : List UInt8 := if n < 0 then 45 :: digN n.natAbs else digN n.natAbs
theorem digN_lt {m : Nat} (h : m < 10) : digN m = [UInt8.ofNat (48 + m)] := by rw [digN, dif_pos h]
theorem digN_ge {m : Nat} (h : ¬ m < 10) : digN m = digN (m / 10) ++ [UInt8.ofNat (48 + m % 10)] := by rw [digN, dif_neg h]
theorem digN_len : ∀ (k m : Nat), m < 10 ^ (k + 1) → (digN m).length ≤ k + 1
  | 0, m, h => by rw [digN_lt (by simpa using h)]; simp
  | k + 1, m, h => by
    by_cases h10 : m < 10
    · rw [digN_lt h10]; simp
    · rw [digN_ge h10]
      have := digN_len k (m / 10) (by rw [Nat.pow_succ] at h; omega)
      simp; omega
theorem wrap_u8 (n : Int) (h0 : 0 ≤ n) (h1 : n < 256) : IntKind.u8.wrap n = n := IntWalk.u8_in n ⟨h0, by omega⟩
theorem byte_of {d : Nat} {n : Int} (h : n = 48 + d) (hd : d < 10) : D.it .u8 (IntKind.u8.wrap n) = D.it .u8 ((UInt8.ofNat (48 + d)).toNat : Int) := by
  subst h
  rw [wrap_u8 _ (by omega) (by omega)]
  have : (UInt8.ofNat (48 + d)).toNat = 48 + d := by simp [UInt8.toNat_ofNat']; omega
  rw [this]; rfl
theorem dig_len (n : Int) (h1 : -9223372036854775808 ≤ n) (h2 : n ≤ 9223372036854775807) : (dig n).length ≤ 20 := by
  have := digN_len 18 n.natAbs (by omega)
  unfold dig; split <;> simp <;> omega
theorem refDig_ok : ∀ (k : Nat) (n : Int), n.natAbs < k → -9223372036854775808 ≤ n → n ≤ 9223372036854775807 → FnC Tryd.prog 22 [.d (.it .i64 n)] (.d (.st (dig n))) := by
  intro k
  induction k with
  | zero => intro n h; omega
  | succ k ih =>
    intro n hn h1 h2
    refine FnC.intro ti_ok Tryd.func22 rfl Tryd.ntmps22 Tryd.call22 rfl (Nat.le_of_ble_eq_true rfl) rfl ?_
    have byte : ∀ (d : Nat) (m : Int), m = 48 + d → d < 10 → [[D.it .u8 (IntKind.u8.wrap (IntKind.i64.wrap m))]] = bytesD [UInt8.ofNat (48 + d)] := fun d m hm hd => by
      rw [wrap_i64 m (by omega) (by omega), byte_of hm hd]; rfl
    by_cases hneg : n < 0
    · have e2 : decide (n < 0) = true := by simpa using hneg
      by_cases hs : -10 < n
      · have e1 : decide (n > -10) = true := by simpa using hs
        repeat' (conv => whnf
                 first | with_reducible refine LetI.mk ?_ | with_reducible refine LetN.mk ?_ | with_reducible refine Spl.tt ?_ | with_reducible refine Spl.ff ?_ | (with_reducible refine Spl.mk (fun h => ?_) (fun h => ?_) <;> first | (exfalso; simp_all; done) | skip))
        (repeat ((conv => whnf); with_reducible refine LetI.mk ?_))
        conv => whnf
        refine ⟨[UInt8.ofNat (48 + n.natAbs)], byte _ _ (by omega) (by omega), ?_⟩
        (repeat ((conv => whnf); with_reducible refine LetI.mk ?_))
        conv => whnf
        refine ⟨by simp, ?_⟩
        refine st_eq ?_
        rw [dig, if_pos hneg, digN_lt (by omega)]; rfl
      · have e1 : decide (n > -10) = false := by simpa using hs
        have q1 : n.tdiv 10 = -((n.natAbs / 10 : Nat) : Int) := by
          obtain ⟨m, rfl⟩ : ∃ m : Nat, n = -(m : Int) := ⟨n.natAbs, by omega⟩
          rw [Int.neg_tdiv, Int.natAbs_neg, Int.natAbs_natCast]; rfl
        have q2 : n.tmod 10 = -((n.natAbs % 10 : Nat) : Int) := by
          obtain ⟨m, rfl⟩ : ∃ m : Nat, n = -(m : Int) := ⟨n.natAbs, by omega⟩
          rw [Int.neg_tmod, Int.natAbs_neg, Int.natAbs_natCast]; rfl
        have hc := ih (n.tdiv 10) (by omega) (by omega) (by omega)
        have hw : IntKind.i64.wrap (n.tdiv 10) = n.tdiv 10 := wrap_i64 _ (by omega) (by omega)
        have hd : dig (n.tdiv 10) = 45 :: digN (n.natAbs / 10) := by
          rw [dig, if_pos (by omega), q1, Int.natAbs_neg, Int.natAbs_natCast]
        have hlen := dig_len (n.tdiv 10) (by omega) (by omega)
        repeat' (conv => whnf
                 first | with_reducible refine LetI.mk ?_ | with_reducible refine LetN.mk ?_ | with_reducible refine Spl.tt ?_ | with_reducible refine Spl.ff ?_ | (with_reducible refine Spl.mk (fun h => ?_) (fun h => ?_) <;> first | (exfalso; simp_all; done) | skip))
        refine draw_rule ti_ok mixed 10 rfl ?_
        (repeat ((conv => whnf); with_reducible refine LetI.mk ?_))
        conv => whnf
        refine ⟨by decide, ?_⟩
        (repeat ((conv => whnf); with_reducible refine LetI.mk ?_))
        refine CallP.mk ⟨.d (.st (dig (n.tdiv 10))), by rw [hw]; exact hc, ?_⟩
        (repeat ((conv => whnf); with_reducible refine LetI.mk ?_))
        conv => whnf
        refine ⟨by decide, ?_⟩
        (repeat ((conv => whnf); with_reducible refine LetI.mk ?_))
        (repeat ((conv => whnf); with_reducible refine LetI.mk ?_))
        conv => whnf
        refine ⟨[UInt8.ofNat (48 + n.natAbs % 10)], byte _ _ (by rw [q2]; omega) (by omega), ?_⟩
        (repeat ((conv => whnf); with_reducible refine LetI.mk ?_))
        conv => whnf
        refine ⟨by rw [List.length_singleton]; omega, ?_⟩
        refine st_eq ?_
        rw [hd, dig, if_pos hneg, digN_ge (m := n.natAbs) (by omega)]; rfl
    · have e2 : decide (n < 0) = false := by simpa using hneg
      by_cases hs : 9 < n
      · have e1 : decide (n > 9) = true := by simpa using hs
        have q1 : n.tdiv 10 = ((n.natAbs / 10 : Nat) : Int) := by
          obtain ⟨m, rfl⟩ : ∃ m : Nat, n = (m : Int) := ⟨n.natAbs, by omega⟩
          rw [Int.natAbs_natCast]; rfl
        have q2 : n.tmod 10 = ((n.natAbs % 10 : Nat) : Int) := by
          obtain ⟨m, rfl⟩ : ∃ m : Nat, n = (m : Int) := ⟨n.natAbs, by omega⟩
          rw [Int.natAbs_natCast]; rfl
        have hc := ih (n.tdiv 10) (by omega) (by omega) (by omega)
        have hw : IntKind.i64.wrap (n.tdiv 10) = n.tdiv 10 := wrap_i64 _ (by omega) (by omega)
        have hd : dig (n.tdiv 10) = digN (n.natAbs / 10) := by
          rw [dig, if_neg (by omega), q1, Int.natAbs_natCast]
        have hlen := dig_len (n.tdiv 10) (by omega) (by omega)
        repeat' (conv => whnf
                 first | with_reducible refine LetI.mk ?_ | with_reducible refine LetN.mk ?_ | with_reducible refine Spl.tt ?_ | with_reducible refine Spl.ff ?_ | (with_reducible refine Spl.mk (fun h => ?_) (fun h => ?_) <;> first | (exfalso; simp_all; done) | skip))
        all_goals first | (exfalso; simp_all; done) | skip
        all_goals refine draw_rule ti_ok mixed 10 rfl ?_
        all_goals (repeat ((conv => whnf); with_reducible refine LetI.mk ?_))
        all_goals conv => whnf
        all_goals refine ⟨by decide, ?_⟩
        all_goals (repeat ((conv => whnf); with_reducible refine LetI.mk ?_))
        all_goals refine CallP.mk ⟨.d (.st (dig (n.tdiv 10))), by rw [hw]; exact hc, ?_⟩
        all_goals (repeat ((conv => whnf); with_reducible refine LetI.mk ?_))
        all_goals conv => whnf
        all_goals refine ⟨by decide, ?_⟩
        all_goals (repeat ((conv => whnf); with_reducible refine LetI.mk ?_))
        all_goals (repeat ((conv => whnf); with_reducible refine LetI.mk ?_))
        all_goals conv => whnf
        all_goals refine ⟨[UInt8.ofNat (48 + n.natAbs % 10)], byte _ _ (by rw [q2]) (by omega), ?_⟩
        all_goals (repeat ((conv => whnf); with_reducible refine LetI.mk ?_))
        all_goals conv => whnf
        all_goals refine ⟨by rw [List.length_singleton]; omega, ?_⟩
        all_goals refine st_eq ?_
        all_goals rw [hd, dig, if_neg hneg, digN_ge (m := n.natAbs) (by omega)]
      · have e1 : decide (n > 9) = false := by simpa using hs
        repeat' (conv => whnf
                 first | with_reducible refine LetI.mk ?_ | with_reducible refine LetN.mk ?_ | with_reducible refine Spl.tt ?_ | with_reducible refine Spl.ff ?_ | (with_reducible refine Spl.mk (fun h => ?_) (fun h => ?_) <;> first | (exfalso; simp_all; done) | skip))
        all_goals first | (exfalso; simp_all; done) | skip
        all_goals (repeat ((conv => whnf); with_reducible refine LetI.mk ?_))
        all_goals conv => whnf
        all_goals refine ⟨[UInt8.ofNat (48 + n.natAbs)], byte _ _ (by omega) (by omega), ?_⟩
        all_goals refine st_eq ?_
        all_goals rw [dig, if_neg hneg, digN_lt (by omega)]
end Go.Proofs.YtgldagkdfhabbaaDoor

namespace Go.Proofs.YtgldagkdfhabbaaDoor
open Go.Sy
set_option maxRecDepth 100000
def Z20 : List AV := List.replicate 20 (u8A 0)
def stD (n : Int) : Nat × List UInt8 → S | (u, l) => ⟨[(0, .d (.it .i64 n)), (3, .ptr 0 0), (4, .d (.it .i64 (20 - l.length))), (5, .d (.it .u64 u))], [(0, .cells 20 (Z20.take (20 - l.length) ++ l.map u8A))], 1⟩
theorem all_u8 (l : List UInt8) (m : Nat) : (l.map u8A).all (AV.lt1 m) = true := by
  rw [List.all_eq_true]
  intro x hx
  obtain ⟨b, _, rfl⟩ := List.mem_map.1 hx
  rfl
theorem all_Z (k m : Nat) : (Z20.take k).all (AV.lt1 m) = true := by
  rw [List.all_eq_true]
  intro x hx
  have := List.eq_of_mem_replicate (List.mem_of_mem_take hx)
  subst this; rfl
theorem stD_ok (n : Int) (x : Nat × List UInt8) : (stD n x).ok = true := by
  simp only [S.ok, stD, List.all_cons, List.all_nil, Ob.lt, List.all_append, all_u8, all_Z]
  rfl
theorem upd (l : List UInt8) (hl : l.length < 20) (v : AV) : (Z20.take (20 - l.length) ++ l.map u8A).take (19 - l.length) ++ [v] ++ (Z20.take (20 - l.length) ++ l.map u8A).drop (19 - l.length + 1) = Z20.take (19 - l.length) ++ (v :: l.map u8A) := by
  have hz : (Z20.take (20 - l.length)).length = 20 - l.length := by simp [Z20]
  rw [List.take_append_of_le_length (by omega), List.take_take, Nat.min_eq_left (by omega), List.drop_append_of_le_length (by omega), List.drop_eq_nil_of_le (by omega)]
  simp
theorem tail_of (l : List UInt8) (hl : l.length ≤ 20) : ((Z20.take (20 - l.length) ++ l.map u8A).drop (20 - l.length)).take (20 - (20 - l.length)) = l.map u8A := by
  have hz : (Z20.take (20 - l.length)).length = 20 - l.length := by simp [Z20]
  rw [List.drop_append_of_le_length (by omega), List.drop_eq_nil_of_le (by omega), List.nil_append, List.take_of_length_le (by simp; omega)]
theorem val_of (u : Nat) : AV.d (.it .u8 (48 + (u : Int) % 10)) = u8A (UInt8.ofNat (48 + u % 10)) := by
  have : (UInt8.ofNat (48 + u % 10)).toNat = 48 + u % 10 := by simp [UInt8.toNat_ofNat']; omega
  rw [u8A, this]; rfl
theorem upd2 (l : List UInt8) (hl : l.length < 19) (c : UInt8) (v : AV) : (Z20.take (19 - l.length) ++ u8A c :: l.map u8A).take (18 - l.length) ++ [v] ++ (Z20.take (19 - l.length) ++ u8A c :: l.map u8A).drop (18 - l.length + 1) = Z20.take (18 - l.length) ++ (v :: u8A c :: l.map u8A) := by
  have h2 := upd (c :: l) (by simp; omega) v
  simp only [List.length_cons, List.map_cons] at h2
  rwa [show 20 - (l.length + 1) = 19 - l.length by omega, show 19 - (l.length + 1) = 18 - l.length by omega] at h2
theorem digits_ok (n : Int) (h1 : -9223372036854775808 ≤ n) (h2 : n ≤ 9223372036854775807) : FnC Tryd.prog 19 [.d (.it .i64 n)] (.d (.st (dig n))) := by
  refine FnC.intro ti_ok Tryd.func19 rfl Tryd.ntmps19 Tryd.call19 rfl (Nat.le_of_ble_eq_true rfl) rfl ?_
  have hu1 : IntKind.u64.wrap (0 - IntKind.u64.wrap n) = if n < 0 then (n.natAbs : Int) else IntKind.u64.wrap (0 - IntKind.u64.wrap n) := by split; (rw [IntKind.wrap_u64, IntKind.wrap_u64]; omega); rfl
  have hu0 : IntKind.u64.wrap n = if n < 0 then IntKind.u64.wrap n else (n.natAbs : Int) := by split; rfl; (rw [IntKind.wrap_u64]; omega)
  conv => whnf
  refine LetI.mk ?_
  conv => whnf
  refine Spl.pd (fun hneg => ?_) (fun hneg => ?_)
  all_goals try rw [if_pos hneg] at hu1
  all_goals try rw [if_neg hneg] at hu0
  all_goals try (refine LetI.eq _ hu1 ?_)
  all_goals refine loop_rule ti_ok (fun x : Nat × List UInt8 => x.1 < 10 ^ (19 - x.2.length) ∧ x.2.length < 19 ∧ digN n.natAbs = digN x.1 ++ x.2) (stD n) (fun x => x.1) (n.natAbs, []) ⟨by simp; omega, by simp, by simp⟩ ⟨⟨rfl, rfl, rfl, by first | rfl | exact congrArg AV.d (congrArg (D.it .u64) hu0), trivial⟩, ⟨rfl, trivial⟩, rfl⟩ ?_
  all_goals intro ⟨u, l⟩ ⟨i1, i2, i3⟩
  all_goals simp only at i1 i2 i3
  all_goals have hpow : 10 ^ (19 - l.length) ≤ 10 ^ 19 := Nat.pow_le_pow_right (by omega) (by omega)
  all_goals (repeat' ((conv => whnf); first | with_reducible refine Spl.tt ?_ | with_reducible refine Spl.ff ?_ | with_reducible refine LetN.eq (19 - l.length) (by dsimp only; omega) ?_ | with_reducible refine LetN.eq (18 - l.length) (by dsimp only; omega) ?_ | with_reducible refine LetI.i64 (by omega) ?_ | with_reducible refine LetI.u64 (by omega) ?_ | with_reducible refine LetI.u8 (by omega) ?_ | with_reducible refine LetI.i64q (by omega) ?_ | with_reducible refine LetI.u64q (by omega) ?_ | with_reducible refine LetI.rem (by omega) ?_ | with_reducible refine LetN.mk ?_ | with_reducible refine And.intro (by omega) ?_ | with_reducible refine cond_tt (by first | rfl | exact ble_tt (by omega) | exact band_tt rfl (ble_tt (by omega))) ?_ | with_reducible refine Spl.yes (by (first | with_reducible assumption | exact dtt (by omega) | exact ett (by omega) | exact ntt (by omega))) ?_ | with_reducible refine Spl.no (by (first | with_reducible assumption | exact dff (by omega) | exact eff (by omega) | exact nff (by omega))) ?_ | with_reducible refine Spl.pd (fun h => ?_) (fun h => ?_) | with_reducible refine Spl.peq (fun h => ?_) (fun h => ?_) | with_reducible refine Spl.pne (fun h => ?_) (fun h => ?_) | with_reducible refine Spl.seq (fun h => ?_) (fun h => ?_) | with_reducible refine Spl.sne (fun h => ?_) (fun h => ?_) | with_reducible refine Spl.nt ?_ | with_reducible refine Spl.mk (fun h => ?_) (fun h => ?_)))
  · refine ⟨45 :: UInt8.ofNat (48 + u % 10) :: l, ⟨?_, ?_⟩, ?_⟩
    · omega
    · have := tail_of (45 :: UInt8.ofNat (48 + u % 10) :: l) (by simp; omega)
      simp only [List.length_cons, List.map_cons] at this
      rw [show 20 - (l.length + 1 + 1) = 18 - l.length by omega] at this
      rw [val_of, upd l (by omega), upd2 l (by omega)]
      rw [show (20 : Nat) - ((20 : Int) - ↑l.length - 1 - 1).toNat = 20 - (18 - l.length) by omega]
      exact this
    · refine st_eq ?_
      rw [dig, if_pos hneg, i3, digN_lt (by omega), Nat.mod_eq_of_lt (by omega)]
      rfl
  · have hl18 : l.length < 18 := by
      rcases Nat.lt_or_ge l.length 18 with h' | h'
      · exact h'
      · exfalso
        have : 10 ^ (19 - l.length) ≤ 10 ^ 1 := Nat.pow_le_pow_right (by omega) (by omega)
        omega
    refine again ((u / 10, UInt8.ofNat (48 + u % 10) :: l) : Nat × List UInt8) ⟨?_, ?_, ?_⟩ (by show u / 10 < u; omega) (And.intro rfl (And.intro rfl (And.intro (it_eq ?_) (And.intro rfl trivial)))) (And.intro (congrArg (Ob.cells 20) ?_) trivial) (stD_ok _ _)
    · show u / 10 < 10 ^ (19 - (l.length + 1))
      rw [show 19 - l.length = (19 - (l.length + 1)) + 1 by omega, Nat.pow_succ] at i1
      omega
    · show l.length + 1 < 19
      omega
    · show digN n.natAbs = digN (u / 10) ++ (UInt8.ofNat (48 + u % 10) :: l)
      rw [i3, digN_ge (by omega), List.append_assoc]; rfl
    · show _ = (20 - ((l.length + 1 : Nat) : Int))
      omega
    · rw [val_of, upd l (by omega), List.length_cons, show 20 - (l.length + 1) = 19 - l.length by omega, List.map_cons]
  · refine ⟨UInt8.ofNat (48 + u % 10) :: l, ⟨?_, ?_⟩, ?_⟩
    · omega
    · have := tail_of (UInt8.ofNat (48 + u % 10) :: l) (by simp; omega)
      simp only [List.length_cons, List.map_cons] at this
      rw [show 20 - (l.length + 1) = 19 - l.length by omega] at this
      rw [val_of, upd l (by omega)]
      rw [show (20 : Nat) - ((20 : Int) - ↑l.length - 1).toNat = 20 - (19 - l.length) by omega]
      exact this
    · refine st_eq ?_
      rw [dig, if_neg hneg, i3, digN_lt (by omega), Nat.mod_eq_of_lt (by omega)]
      rfl
  · have hl18 : l.length < 18 := by
      rcases Nat.lt_or_ge l.length 18 with h' | h'
      · exact h'
      · exfalso
        have : 10 ^ (19 - l.length) ≤ 10 ^ 1 := Nat.pow_le_pow_right (by omega) (by omega)
        omega
    refine again ((u / 10, UInt8.ofNat (48 + u % 10) :: l) : Nat × List UInt8) ⟨?_, ?_, ?_⟩ (by show u / 10 < u; omega) (And.intro rfl (And.intro rfl (And.intro (it_eq ?_) (And.intro rfl trivial)))) (And.intro (congrArg (Ob.cells 20) ?_) trivial) (stD_ok _ _)
    · show u / 10 < 10 ^ (19 - (l.length + 1))
      rw [show 19 - l.length = (19 - (l.length + 1)) + 1 by omega, Nat.pow_succ] at i1
      omega
    · show l.length + 1 < 19
      omega
    · show digN n.natAbs = digN (u / 10) ++ (UInt8.ofNat (48 + u % 10) :: l)
      rw [i3, digN_ge (by omega), List.append_assoc]; rfl
    · show _ = (20 - ((l.length + 1 : Nat) : Int))
      omega
    · rw [val_of, upd l (by omega), List.length_cons, show 20 - (l.length + 1) = 19 - l.length by omega, List.map_cons]
end Go.Proofs.YtgldagkdfhabbaaDoor

/-
  DERIVED: THE SHELF's CONTRACTS AT THIS DUMP, IN PLAIN WORDS (tools/lay-plain.mjs out of 'TrydShelf.lean', which tools/lay-shelf.mjs wrote): THE SAME DECLARATIONS UNDER THE SAME NAMES: 'import', 'namespace', 'open', 'def', 'theorem' AND NOTHING ELSE: no command of the shelf's: FOR A HAND-IN. Each laying: the table of numbers ('.._ren') and one theorem, a field a fact of the dump's own or the kernel's comparison; each contract: ONE APPLICATION.
-/
namespace Go.Proofs
open Go.Shelf
def Tryd.lays169_ren : Go.Shelf.Ren := ⟨fun | 169 => 34 | n => n, fun | 70 => 69 | 9 => 9 | 0 => 0 | 72 => 71 | 37 => 68 | 127 => 79 | 3 => 3 | 5 => 5 | n => n, fun | n => n⟩
theorem Tryd.lays169 : Go.Proofs.Lays.n169 Tryd.prog Tryd.lays169_ren := {
  mixed := by kernel_rfl
  f169 := Tryd.func34.trans (congrArg some (by kernel_rfl))
  t0 := Tryd.underlying0
  a0 := Tryd.isAgg0
  z0 := Tryd.sizeOf0
  v0 := Tryd.zeroValue0
  t3 := Tryd.underlying3
  a3 := Tryd.isAgg3
  z3 := Tryd.sizeOf3
  v3 := Tryd.zeroValue3
  t9 := Tryd.underlying9
  a9 := Tryd.isAgg9
  z9 := Tryd.sizeOf9
  v9 := Tryd.zeroValue9
  t37 := Tryd.underlying68
  a37 := Tryd.isAgg68
  z37 := Tryd.sizeOf68
  v37 := Tryd.zeroValue68
  t70 := Tryd.underlying69
  a70 := Tryd.isAgg69
  z70 := Tryd.sizeOf69
  v70 := Tryd.zeroValue69
  t72 := Tryd.underlying71
  a72 := Tryd.isAgg71
  z72 := Tryd.sizeOf71
  v72 := Tryd.zeroValue71
  t127 := Tryd.underlying79
  a127 := Tryd.isAgg79
  z127 := Tryd.sizeOf79
  v127 := Tryd.zeroValue79 }
theorem Tryd.Builder_Extra_169 : Builder.Extra Tryd.prog Tryd.lays169_ren := {
  sizeBuilder := by kernel_rfl
  liesBuilder := by kernel_rfl
  t5 := Tryd.underlying5
  a5 := Tryd.isAgg5
  z5 := Tryd.sizeOf5
  v5 := Tryd.zeroValue5
  infoByte := by kernel_rfl
  cellsByte := by kernel_rfl
  sizeByte := by kernel_rfl
  neB5 := by decide }
open Go.RowKit in
/-- (*strings.Builder).String: "String returns the accumulated string.": OF A BUILDER THAT HOLDS AT LEAST ONE BYTE. ✋ THE MODEL FREEZES THOSE BYTES IN THE BUFFER (unsafe.String): a later write INTO them ends the model's run without an answer; a later append BEHIND them goes on. The statement's order of evaluation is drawn: one draw. (LAID: no walk: one application.) -/
theorem Tryd.Builder_String (B b : Nat) (l : List UInt8) (w : World) (h : Lib.IsBuilder 71 5 B b (Lib.byteCells l) w) (h0 : l ≠ []) :
    Calls Tryd.prog 34 #[.pointer (some ⟨b, 0, none⟩)] w fun e w' => e = .returned (.string ⟨l.toArray⟩) ∧ Below B w w' := Any.Builder_String Tryd.lays169 Tryd.Builder_Extra_169 B b l w h h0
open Go.RowKit in
/-- (*strings.Builder).String OF A BUILDER THAT HOLDS NO BYTE: the empty string. (Its buffer is nil, or a row of which it has taken nothing yet; where that row has NO capacity the model lays one new block for unsafe.SliceData's 'some address'.) One draw. (LAID: no walk: one application.) -/
theorem Tryd.Builder_String_empty (B b : Nat) (w : World) (h : Lib.IsBuilder 71 5 B b [] w) (hBw : B ≤ w.heap.size) :
    Calls Tryd.prog 34 #[.pointer (some ⟨b, 0, none⟩)] w fun e w' => e = .returned (.string ⟨#[]⟩) ∧ Below B w w' := Any.Builder_String_empty Tryd.lays169 Tryd.Builder_Extra_169 B b w h hBw
open Go.RowKit in
/-- (*strings.Builder).String: "String returns the accumulated string.": WHATEVER THE BUILDER HOLDS. (LAID: no walk: one application.) -/
theorem Tryd.Builder_String_any (B b : Nat) (l : List UInt8) (w : World) (h : Lib.IsBuilder 71 5 B b (Lib.byteCells l) w) (hBw : B ≤ w.heap.size) :
    Calls Tryd.prog 34 #[.pointer (some ⟨b, 0, none⟩)] w fun e w' => e = .returned (.string ⟨l.toArray⟩) ∧ Below B w w' := Any.Builder_String_any Tryd.lays169 Tryd.Builder_Extra_169 B b l w h hBw
def Tryd.lays241_ren : Go.Shelf.Ren := ⟨fun | 241 => 38 | 277 => 43 | n => n, fun | 70 => 69 | 3 => 3 | 0 => 0 | 72 => 71 | 37 => 68 | 5 => 5 | n => n, fun | n => n⟩
theorem Tryd.lays241 : Go.Proofs.Lays.n241 Tryd.prog Tryd.lays241_ren := {
  mixed := by kernel_rfl
  f241 := Tryd.func38.trans (congrArg some (by kernel_rfl))
  f277 := Tryd.func43.trans (congrArg some (by kernel_rfl))
  t0 := Tryd.underlying0
  a0 := Tryd.isAgg0
  z0 := Tryd.sizeOf0
  v0 := Tryd.zeroValue0
  t3 := Tryd.underlying3
  a3 := Tryd.isAgg3
  z3 := Tryd.sizeOf3
  v3 := Tryd.zeroValue3
  t37 := Tryd.underlying68
  a37 := Tryd.isAgg68
  z37 := Tryd.sizeOf68
  v37 := Tryd.zeroValue68
  t70 := Tryd.underlying69
  a70 := Tryd.isAgg69
  z70 := Tryd.sizeOf69
  v70 := Tryd.zeroValue69
  t72 := Tryd.underlying71
  a72 := Tryd.isAgg71
  z72 := Tryd.sizeOf71
  v72 := Tryd.zeroValue71 }
theorem Tryd.Builder_Extra_241 : Builder.Extra Tryd.prog Tryd.lays241_ren := {
  sizeBuilder := by kernel_rfl
  liesBuilder := by kernel_rfl
  t5 := Tryd.underlying5
  a5 := Tryd.isAgg5
  z5 := Tryd.sizeOf5
  v5 := Tryd.zeroValue5
  infoByte := by kernel_rfl
  cellsByte := by kernel_rfl
  sizeByte := by kernel_rfl
  neB5 := by decide }
open Go.RowKit in
/-- (*strings.Builder).grow (no doc but "grow copies the buffer to a new, larger buffer so that there are at least n bytes of capacity beyond len(b.buf)."): AT A BUILDER WITHOUT A BUFFER: a new row of whatever bytes for its buffer, none of them its own yet. Three draws. (LAID: no walk: one application.) -/
theorem Tryd.Builder_grow_fresh (B b n : Nat) (w : World) (hB : B ≤ b) (hbk : w.heap[b]? = some (.cells #[.pointer (some ⟨b, 0, none⟩), .slice none 0 0] 71 (0, 0))) (hBw : B ≤ w.heap.size) (hn : n ≤ 281474976710656) :
    Calls Tryd.prog 38 #[.pointer (some ⟨b, 0, none⟩), .int .i64 n] w fun e w' => e = .returned (.tuple #[]) ∧ (Lib.BuilderAt 71 5 B b (.pointer (some ⟨b, 0, none⟩)) [] w' ∧ Below B w w') := Any.Builder_grow_fresh Tryd.lays241 Tryd.Builder_Extra_241 B b n w hB hbk hBw hn
def Tryd.lays165_ren : Go.Shelf.Ren := ⟨fun | 165 => 32 | 240 => 37 | 241 => 38 | 276 => 42 | 277 => 43 | n => n, fun | 70 => 69 | 3 => 3 | 0 => 0 | 4 => 4 | 9 => 9 | 20 => 20 | 72 => 71 | 37 => 68 | 164 => 82 | 5 => 5 | n => n, fun | n => n⟩
theorem Tryd.lays165 : Go.Proofs.Lays.n165 Tryd.prog Tryd.lays165_ren := {
  mixed := by kernel_rfl
  f165 := Tryd.func32.trans (congrArg some (by kernel_rfl))
  f240 := Tryd.func37.trans (congrArg some (by kernel_rfl))
  f241 := Tryd.func38.trans (congrArg some (by kernel_rfl))
  f276 := Tryd.func42.trans (congrArg some (by kernel_rfl))
  f277 := Tryd.func43.trans (congrArg some (by kernel_rfl))
  t0 := Tryd.underlying0
  a0 := Tryd.isAgg0
  z0 := Tryd.sizeOf0
  v0 := Tryd.zeroValue0
  t3 := Tryd.underlying3
  a3 := Tryd.isAgg3
  z3 := Tryd.sizeOf3
  v3 := Tryd.zeroValue3
  t4 := Tryd.underlying4
  a4 := Tryd.isAgg4
  z4 := Tryd.sizeOf4
  v4 := Tryd.zeroValue4
  t9 := Tryd.underlying9
  a9 := Tryd.isAgg9
  z9 := Tryd.sizeOf9
  v9 := Tryd.zeroValue9
  t20 := Tryd.underlying20
  a20 := Tryd.isAgg20
  z20 := Tryd.sizeOf20
  v20 := Tryd.zeroValue20
  t37 := Tryd.underlying68
  a37 := Tryd.isAgg68
  z37 := Tryd.sizeOf68
  v37 := Tryd.zeroValue68
  t70 := Tryd.underlying69
  a70 := Tryd.isAgg69
  z70 := Tryd.sizeOf69
  v70 := Tryd.zeroValue69
  t72 := Tryd.underlying71
  a72 := Tryd.isAgg71
  z72 := Tryd.sizeOf71
  v72 := Tryd.zeroValue71
  t164 := Tryd.underlying82
  a164 := Tryd.isAgg82
  z164 := Tryd.sizeOf82
  v164 := Tryd.zeroValue82 }
theorem Tryd.Builder_Extra_165 : Builder.Extra Tryd.prog Tryd.lays165_ren := {
  sizeBuilder := by kernel_rfl
  liesBuilder := by kernel_rfl
  t5 := Tryd.underlying5
  a5 := Tryd.isAgg5
  z5 := Tryd.sizeOf5
  v5 := Tryd.zeroValue5
  infoByte := by kernel_rfl
  cellsByte := by kernel_rfl
  sizeByte := by kernel_rfl
  neB5 := by decide }
open Go.RowKit in
/-- (*strings.Builder).Grow AT A BUILDER THAT HAS NOT BEEN WRITTEN ('var b strings.Builder; b.Grow(n)'): "Grow grows b's capacity, if necessary, to guarantee space for another n bytes.": it holds no byte behind it as before it. (LAID: no walk: one application.) -/
theorem Tryd.Builder_Grow_fresh (B b n : Nat) (w : World) (hB : B ≤ b) (hbk : w.heap[b]? = some (.cells #[.pointer none, .slice none 0 0] 71 (0, 0))) (hBw : B ≤ w.heap.size) (hn : n ≤ 281474976710656) :
    Calls Tryd.prog 32 #[.pointer (some ⟨b, 0, none⟩), .int .i64 n] w fun e w' => e = .returned (.tuple #[]) ∧ (Lib.BuilderAt 71 5 B b (.pointer (some ⟨b, 0, none⟩)) [] w' ∧ Below B w w') := Any.Builder_Grow_fresh Tryd.lays165 Tryd.Builder_Extra_165 B b n w hB hbk hBw hn
def Tryd.lays156_ren : Go.Shelf.Ren := ⟨fun | 156 => 20 | 165 => 32 | 166 => 33 | 169 => 34 | 240 => 37 | 241 => 38 | 276 => 42 | 277 => 43 | n => n, fun | 31 => 51 | 9 => 9 | 3 => 3 | 4 => 4 | 0 => 0 | 20 => 20 | 72 => 71 | 76 => 75 | 70 => 69 | 37 => 68 | 75 => 74 | 127 => 79 | 164 => 82 | 5 => 5 | 80 => 77 | n => n, fun | n => n⟩
theorem Tryd.lays156 : Go.Proofs.Lays.n156 Tryd.prog Tryd.lays156_ren := {
  mixed := by kernel_rfl
  f156 := Tryd.func20.trans (congrArg some (by kernel_rfl))
  f165 := Tryd.func32.trans (congrArg some (by kernel_rfl))
  f166 := Tryd.func33.trans (congrArg some (by kernel_rfl))
  f169 := Tryd.func34.trans (congrArg some (by kernel_rfl))
  f240 := Tryd.func37.trans (congrArg some (by kernel_rfl))
  f241 := Tryd.func38.trans (congrArg some (by kernel_rfl))
  f276 := Tryd.func42.trans (congrArg some (by kernel_rfl))
  f277 := Tryd.func43.trans (congrArg some (by kernel_rfl))
  t0 := Tryd.underlying0
  a0 := Tryd.isAgg0
  z0 := Tryd.sizeOf0
  v0 := Tryd.zeroValue0
  t3 := Tryd.underlying3
  a3 := Tryd.isAgg3
  z3 := Tryd.sizeOf3
  v3 := Tryd.zeroValue3
  t4 := Tryd.underlying4
  a4 := Tryd.isAgg4
  z4 := Tryd.sizeOf4
  v4 := Tryd.zeroValue4
  t9 := Tryd.underlying9
  a9 := Tryd.isAgg9
  z9 := Tryd.sizeOf9
  v9 := Tryd.zeroValue9
  t20 := Tryd.underlying20
  a20 := Tryd.isAgg20
  z20 := Tryd.sizeOf20
  v20 := Tryd.zeroValue20
  t31 := Tryd.underlying51
  a31 := Tryd.isAgg51
  z31 := Tryd.sizeOf51
  v31 := Tryd.zeroValue51
  t37 := Tryd.underlying68
  a37 := Tryd.isAgg68
  z37 := Tryd.sizeOf68
  v37 := Tryd.zeroValue68
  t70 := Tryd.underlying69
  a70 := Tryd.isAgg69
  z70 := Tryd.sizeOf69
  v70 := Tryd.zeroValue69
  t72 := Tryd.underlying71
  a72 := Tryd.isAgg71
  z72 := Tryd.sizeOf71
  v72 := Tryd.zeroValue71
  t75 := Tryd.underlying74
  a75 := Tryd.isAgg74
  z75 := Tryd.sizeOf74
  v75 := Tryd.zeroValue74
  t76 := Tryd.underlying75
  a76 := Tryd.isAgg75
  z76 := Tryd.sizeOf75
  v76 := Tryd.zeroValue75
  t127 := Tryd.underlying79
  a127 := Tryd.isAgg79
  z127 := Tryd.sizeOf79
  v127 := Tryd.zeroValue79
  t164 := Tryd.underlying82
  a164 := Tryd.isAgg82
  z164 := Tryd.sizeOf82
  v164 := Tryd.zeroValue82 }
theorem Tryd.Builder_Extra_156 : Builder.Extra Tryd.prog Tryd.lays156_ren := {
  sizeBuilder := by kernel_rfl
  liesBuilder := by kernel_rfl
  t5 := Tryd.underlying5
  a5 := Tryd.isAgg5
  z5 := Tryd.sizeOf5
  v5 := Tryd.zeroValue5
  infoByte := by kernel_rfl
  cellsByte := by kernel_rfl
  sizeByte := by kernel_rfl
  neB5 := by decide }
open Go.RowKit in
/-- No element: the empty string; the world is as it was. (Whatever the slice's address and capacity: a nil slice too.) (LAID: no walk: one application.) -/
theorem Tryd.strings_Join_none (a : Option Addr) (c : Nat) (sep : ByteArray) (w : World) :
    Calls Tryd.prog 20 #[.slice a 0 c, .string sep] w fun e w' => e = .returned (.string ⟨#[]⟩) ∧ w' = w := Any.strings_Join_none Tryd.lays156 Tryd.Builder_Extra_156 a c sep w
open Go.RowKit in
/-- strings.Join: "Join concatenates the elements of its first argument to create a single string. The separator string sep is placed between elements in the resulting string.": HOWEVER MANY ELEMENTS. Below the heap's end the world is as it was. (LAID: no walk: one application.) -/
theorem Tryd.strings_Join (bk o c : Nat) (xs : List ByteArray) (sep : ByteArray) (w : World) (hcells : ∀ (j : Nat) x, xs[j]? = some x → w.cell? ⟨bk, o + j, none⟩ = some (.string x)) (hbk : bk < w.heap.size) (hN : xs.length ≤ 140737488355328) (hcap : xs.length ≤ c) (hlen : (Lib.join (xs.map (·.data.toList)) sep.data.toList).length ≤ 140737488355328) :
    Calls Tryd.prog 20 #[.slice (some ⟨bk, o, none⟩) xs.length c, .string sep] w fun e w' => e = .returned (.string ⟨(Lib.join (xs.map (·.data.toList)) sep.data.toList).toArray⟩) ∧ Below w.heap.size w w' := Any.strings_Join Tryd.lays156 Tryd.Builder_Extra_156 bk o c xs sep w hcells hbk hN hcap hlen
def Tryd.lays217_ren : Go.Shelf.Ren := ⟨fun | 217 => 49 | 266 => 53 | n => n, fun | 9 => 9 | 5 => 5 | 3 => 3 | n => n, fun | n => n⟩
theorem Tryd.lays217 : Go.Proofs.Lays.n217 Tryd.prog Tryd.lays217_ren := {
  mixed := by kernel_rfl
  f217 := Tryd.func49.trans (congrArg some (by kernel_rfl))
  f266 := Tryd.func53.trans (congrArg some (by kernel_rfl))
  t3 := Tryd.underlying3
  a3 := Tryd.isAgg3
  z3 := Tryd.sizeOf3
  v3 := Tryd.zeroValue3
  t5 := Tryd.underlying5
  a5 := Tryd.isAgg5
  z5 := Tryd.sizeOf5
  v5 := Tryd.zeroValue5
  t9 := Tryd.underlying9
  a9 := Tryd.isAgg9
  z9 := Tryd.sizeOf9
  v9 := Tryd.zeroValue9 }
open Go.RowKit Go.Lib in
/-- internal/stringslite.IndexByte (what strings.IndexByte calls): IT RETURNS 'Lib.indexByte s c'; the world is as it was. (LAID: no walk: one application.) -/
theorem Tryd.stringslite_IndexByte (s : ByteArray) (c : Int) (w : World) :
    Calls Tryd.prog 49 #[.string s, .int .u8 c] w fun e w' => e = .returned (.int .i64 (Lib.indexByte s.data.toList c.toNat.toUInt8)) ∧ w' = w := Any.stringslite_IndexByte Tryd.lays217 s c w
def Tryd.lays224_ren : Go.Shelf.Ren := ⟨fun | 224 => 51 | n => n, fun | 3 => 3 | n => n, fun | n => n⟩
theorem Tryd.lays224 : Go.Proofs.Lays.n224 Tryd.prog Tryd.lays224_ren := {
  mixed := by kernel_rfl
  f224 := Tryd.func51.trans (congrArg some (by kernel_rfl))
  t3 := Tryd.underlying3
  a3 := Tryd.isAgg3
  z3 := Tryd.sizeOf3
  v3 := Tryd.zeroValue3 }
open Go.RowKit Go.Lib in
/-- internal/bytealg.Cutover: "Cutover reports the number of failures of IndexByte we should tolerate before switching over to Index. n is the number of bytes processed so far.": on amd64: (n + 16) / 8. (LAID: no walk: one application.) -/
theorem Tryd.bytealg_Cutover (n : Int) (h0 : 0 ≤ n) (h1 : n < 4611686018427387904) (w : World) :
    Calls Tryd.prog 51 #[.int .i64 n] w fun e w' => e = .returned (.int .i64 ((n + 16) / 8)) ∧ w' = w := Any.bytealg_Cutover Tryd.lays224 n h0 h1 w
def Tryd.lays314_ren : Go.Shelf.Ren := ⟨fun | 314 => 54 | n => n, fun | 9 => 9 | 51 => 95 | 3 => 3 | 4 => 4 | 5 => 5 | 46 => 90 | n => n, fun | n => n⟩
theorem Tryd.lays314 : Go.Proofs.Lays.n314 Tryd.prog Tryd.lays314_ren := {
  mixed := by kernel_rfl
  f314 := Tryd.func54.trans (congrArg some (by kernel_rfl))
  t3 := Tryd.underlying3
  a3 := Tryd.isAgg3
  z3 := Tryd.sizeOf3
  v3 := Tryd.zeroValue3
  t4 := Tryd.underlying4
  a4 := Tryd.isAgg4
  z4 := Tryd.sizeOf4
  v4 := Tryd.zeroValue4
  t5 := Tryd.underlying5
  a5 := Tryd.isAgg5
  z5 := Tryd.sizeOf5
  v5 := Tryd.zeroValue5
  t9 := Tryd.underlying9
  a9 := Tryd.isAgg9
  z9 := Tryd.sizeOf9
  v9 := Tryd.zeroValue9
  t46 := Tryd.underlying90
  a46 := Tryd.isAgg90
  z46 := Tryd.sizeOf90
  v46 := Tryd.zeroValue90
  t51 := Tryd.underlying95
  a51 := Tryd.isAgg95
  z51 := Tryd.sizeOf95
  v51 := Tryd.zeroValue95 }
open Go.RowKit Go.Lib in
/-- hashStr: "returns the hash and the appropriate multiplicative factor for use in Rabin-Karp algorithm": THE HASH OF ALL OF sep, AND 16777619 ^ len(sep), both in uint32. (LAID: no walk: one application.) -/
theorem Tryd.bytealg_hashStr (sep : ByteArray) (hs : sep.size < 4294967281) (w : World) :
    Calls Tryd.prog 54 #[.string sep] w fun e w' => e = .returned (.tuple #[.int .u32 (RK.H sep.data.toList % 4294967296), .int .u32 (16777619 ^ sep.size % 4294967296)]) ∧ w' = w := Any.bytealg_hashStr Tryd.lays314 sep hs w
def Tryd.lays267_ren : Go.Shelf.Ren := ⟨fun | 267 => 52 | 314 => 54 | n => n, fun | 9 => 9 | 3 => 3 | 146 => 96 | 51 => 95 | 4 => 4 | 5 => 5 | 46 => 90 | n => n, fun | n => n⟩
theorem Tryd.lays267 : Go.Proofs.Lays.n267 Tryd.prog Tryd.lays267_ren := {
  mixed := by kernel_rfl
  f267 := Tryd.func52.trans (congrArg some (by kernel_rfl))
  f314 := Tryd.func54.trans (congrArg some (by kernel_rfl))
  t3 := Tryd.underlying3
  a3 := Tryd.isAgg3
  z3 := Tryd.sizeOf3
  v3 := Tryd.zeroValue3
  t4 := Tryd.underlying4
  a4 := Tryd.isAgg4
  z4 := Tryd.sizeOf4
  v4 := Tryd.zeroValue4
  t5 := Tryd.underlying5
  a5 := Tryd.isAgg5
  z5 := Tryd.sizeOf5
  v5 := Tryd.zeroValue5
  t9 := Tryd.underlying9
  a9 := Tryd.isAgg9
  z9 := Tryd.sizeOf9
  v9 := Tryd.zeroValue9
  t46 := Tryd.underlying90
  a46 := Tryd.isAgg90
  z46 := Tryd.sizeOf90
  v46 := Tryd.zeroValue90
  t51 := Tryd.underlying95
  a51 := Tryd.isAgg95
  z51 := Tryd.sizeOf95
  v51 := Tryd.zeroValue95
  t146 := Tryd.underlying96
  a146 := Tryd.isAgg96
  z146 := Tryd.sizeOf96
  v146 := Tryd.zeroValue96 }
open Go.RowKit Go.Lib in
theorem Tryd.bytealg_IndexRabinKarp (s sep : ByteArray) (h1 : 1 ≤ sep.size) (h2 : sep.size ≤ s.size) (hs : s.size < 4294967281) (w : World) :
    Calls Tryd.prog 52 #[.string s, .string sep] w fun e w' => e = .returned (.int .i64 (Lib.index s.data.toList sep.data.toList)) ∧ w' = w := Any.bytealg_IndexRabinKarp Tryd.lays267 s sep h1 h2 hs w
def Tryd.lays219_ren : Go.Shelf.Ren := ⟨fun | 219 => 47 | 217 => 49 | 225 => 50 | 224 => 51 | 267 => 52 | 266 => 53 | 314 => 54 | n => n, fun | 9 => 9 | 3 => 3 | 4 => 4 | 5 => 5 | 46 => 90 | 146 => 96 | 51 => 95 | n => n, fun | 1 => 0 | n => n⟩
theorem Tryd.lays219 : Go.Proofs.Lays.n219 Tryd.prog Tryd.lays219_ren := {
  mixed := by kernel_rfl
  f217 := Tryd.func49.trans (congrArg some (by kernel_rfl))
  f219 := Tryd.func47.trans (congrArg some (by kernel_rfl))
  f224 := Tryd.func51.trans (congrArg some (by kernel_rfl))
  f225 := Tryd.func50.trans (congrArg some (by kernel_rfl))
  f266 := Tryd.func53.trans (congrArg some (by kernel_rfl))
  f267 := Tryd.func52.trans (congrArg some (by kernel_rfl))
  f314 := Tryd.func54.trans (congrArg some (by kernel_rfl))
  t3 := Tryd.underlying3
  a3 := Tryd.isAgg3
  z3 := Tryd.sizeOf3
  v3 := Tryd.zeroValue3
  t4 := Tryd.underlying4
  a4 := Tryd.isAgg4
  z4 := Tryd.sizeOf4
  v4 := Tryd.zeroValue4
  t5 := Tryd.underlying5
  a5 := Tryd.isAgg5
  z5 := Tryd.sizeOf5
  v5 := Tryd.zeroValue5
  t9 := Tryd.underlying9
  a9 := Tryd.isAgg9
  z9 := Tryd.sizeOf9
  v9 := Tryd.zeroValue9
  t46 := Tryd.underlying90
  a46 := Tryd.isAgg90
  z46 := Tryd.sizeOf90
  v46 := Tryd.zeroValue90
  t51 := Tryd.underlying95
  a51 := Tryd.isAgg95
  z51 := Tryd.sizeOf95
  v51 := Tryd.zeroValue95
  t146 := Tryd.underlying96
  a146 := Tryd.isAgg96
  z146 := Tryd.sizeOf96
  v146 := Tryd.zeroValue96
  g1 := by kernel_rfl }
open Go.RowKit Go.Lib in
/-- internal/stringslite.Index (what strings.Index calls) AT A substr OF ONE BYTE c: IT RETURNS 'Lib.indexByte s c'; the world is as it was. (LAID: no walk: one application.) -/
theorem Tryd.stringslite_Index_one (s : ByteArray) (c : UInt8) (w : World) :
    Calls Tryd.prog 47 #[.string s, .string ⟨#[c]⟩] w fun e w' => e = .returned (.int .i64 (Lib.indexByte s.data.toList c)) ∧ w' = w := Any.stringslite_Index_one Tryd.lays219 s c w
open Go.RowKit Go.Lib in
/-- internal/stringslite.Index (what strings.Index calls) AT A substr OF WHATEVER LENGTH: IT RETURNS 'Lib.index s substr'; the world is as it was. 'm': what internal/bytealg.MaxLen holds: whatever. (LAID: no walk: one application.) -/
theorem Tryd.stringslite_Index (s sub : ByteArray) (m : Int) (w : World) (hs : s.size < 4294967281) (hm : w.cell? ⟨0, 0, none⟩ = some (.int .i64 m)) :
    Calls Tryd.prog 47 #[.string s, .string sub] w fun e w' => e = .returned (.int .i64 (Lib.index s.data.toList sub.data.toList)) ∧ w' = w := Any.stringslite_Index Tryd.lays219 s sub m w hs hm
def Tryd.lays143_ren : Go.Shelf.Ren := ⟨fun | 143 => 41 | 219 => 47 | 217 => 49 | 225 => 50 | 224 => 51 | 267 => 52 | 266 => 53 | 314 => 54 | n => n, fun | 9 => 9 | 3 => 3 | 4 => 4 | 5 => 5 | 46 => 90 | 146 => 96 | 51 => 95 | n => n, fun | 1 => 0 | n => n⟩
theorem Tryd.lays143 : Go.Proofs.Lays.n143 Tryd.prog Tryd.lays143_ren := {
  mixed := by kernel_rfl
  f143 := Tryd.func41.trans (congrArg some (by kernel_rfl))
  f217 := Tryd.func49.trans (congrArg some (by kernel_rfl))
  f219 := Tryd.func47.trans (congrArg some (by kernel_rfl))
  f224 := Tryd.func51.trans (congrArg some (by kernel_rfl))
  f225 := Tryd.func50.trans (congrArg some (by kernel_rfl))
  f266 := Tryd.func53.trans (congrArg some (by kernel_rfl))
  f267 := Tryd.func52.trans (congrArg some (by kernel_rfl))
  f314 := Tryd.func54.trans (congrArg some (by kernel_rfl))
  t3 := Tryd.underlying3
  a3 := Tryd.isAgg3
  z3 := Tryd.sizeOf3
  v3 := Tryd.zeroValue3
  t4 := Tryd.underlying4
  a4 := Tryd.isAgg4
  z4 := Tryd.sizeOf4
  v4 := Tryd.zeroValue4
  t5 := Tryd.underlying5
  a5 := Tryd.isAgg5
  z5 := Tryd.sizeOf5
  v5 := Tryd.zeroValue5
  t9 := Tryd.underlying9
  a9 := Tryd.isAgg9
  z9 := Tryd.sizeOf9
  v9 := Tryd.zeroValue9
  t46 := Tryd.underlying90
  a46 := Tryd.isAgg90
  z46 := Tryd.sizeOf90
  v46 := Tryd.zeroValue90
  t51 := Tryd.underlying95
  a51 := Tryd.isAgg95
  z51 := Tryd.sizeOf95
  v51 := Tryd.zeroValue95
  t146 := Tryd.underlying96
  a146 := Tryd.isAgg96
  z146 := Tryd.sizeOf96
  v146 := Tryd.zeroValue96
  g1 := by kernel_rfl }
open Go.RowKit Go.Lib in
/-- strings.Index: "Index returns the index of the first instance of substr in s, or -1 if substr is not present in s.": AT A substr OF ONE BYTE c: IT RETURNS 'Lib.indexByte s c'; the world is as it was. (LAID: no walk: one application.) -/
theorem Tryd.strings_Index_one (s : ByteArray) (c : UInt8) (w : World) :
    Calls Tryd.prog 41 #[.string s, .string ⟨#[c]⟩] w fun e w' => e = .returned (.int .i64 (Lib.indexByte s.data.toList c)) ∧ w' = w := Any.strings_Index_one Tryd.lays143 s c w
open Go.RowKit Go.Lib in
/-- strings.Index: "Index returns the index of the first instance of substr in s, or -1 if substr is not present in s.": IT RETURNS 'Lib.index s substr'; the world is as it was. (LAID: no walk: one application.) -/
theorem Tryd.strings_Index (s sub : ByteArray) (m : Int) (w : World) (hs : s.size < 4294967281) (hm : w.cell? ⟨0, 0, none⟩ = some (.int .i64 m)) :
    Calls Tryd.prog 41 #[.string s, .string sub] w fun e w' => e = .returned (.int .i64 (Lib.index s.data.toList sub.data.toList)) ∧ w' = w := Any.strings_Index Tryd.lays143 s sub m w hs hm
def Tryd.lays138_ren : Go.Shelf.Ren := ⟨fun | 138 => 40 | 195 => 44 | 218 => 46 | 143 => 41 | 219 => 47 | 217 => 49 | 225 => 50 | 224 => 51 | 267 => 52 | 266 => 53 | 314 => 54 | n => n, fun | 9 => 9 | 3 => 3 | 4 => 4 | 5 => 5 | 0 => 0 | 46 => 90 | 146 => 96 | 51 => 95 | n => n, fun | 1 => 0 | n => n⟩
theorem Tryd.lays138 : Go.Proofs.Lays.n138 Tryd.prog Tryd.lays138_ren := {
  mixed := by kernel_rfl
  f138 := Tryd.func40.trans (congrArg some (by kernel_rfl))
  f143 := Tryd.func41.trans (congrArg some (by kernel_rfl))
  f195 := Tryd.func44.trans (congrArg some (by kernel_rfl))
  f217 := Tryd.func49.trans (congrArg some (by kernel_rfl))
  f218 := Tryd.func46.trans (congrArg some (by kernel_rfl))
  f219 := Tryd.func47.trans (congrArg some (by kernel_rfl))
  f224 := Tryd.func51.trans (congrArg some (by kernel_rfl))
  f225 := Tryd.func50.trans (congrArg some (by kernel_rfl))
  f266 := Tryd.func53.trans (congrArg some (by kernel_rfl))
  f267 := Tryd.func52.trans (congrArg some (by kernel_rfl))
  f314 := Tryd.func54.trans (congrArg some (by kernel_rfl))
  t0 := Tryd.underlying0
  a0 := Tryd.isAgg0
  z0 := Tryd.sizeOf0
  v0 := Tryd.zeroValue0
  t3 := Tryd.underlying3
  a3 := Tryd.isAgg3
  z3 := Tryd.sizeOf3
  v3 := Tryd.zeroValue3
  t4 := Tryd.underlying4
  a4 := Tryd.isAgg4
  z4 := Tryd.sizeOf4
  v4 := Tryd.zeroValue4
  t5 := Tryd.underlying5
  a5 := Tryd.isAgg5
  z5 := Tryd.sizeOf5
  v5 := Tryd.zeroValue5
  t9 := Tryd.underlying9
  a9 := Tryd.isAgg9
  z9 := Tryd.sizeOf9
  v9 := Tryd.zeroValue9
  t46 := Tryd.underlying90
  a46 := Tryd.isAgg90
  z46 := Tryd.sizeOf90
  v46 := Tryd.zeroValue90
  t51 := Tryd.underlying95
  a51 := Tryd.isAgg95
  z51 := Tryd.sizeOf95
  v51 := Tryd.zeroValue95
  t146 := Tryd.underlying96
  a146 := Tryd.isAgg96
  z146 := Tryd.sizeOf96
  v146 := Tryd.zeroValue96
  g1 := by kernel_rfl }
open Go.RowKit Go.Lib in
/-- strings.Count AT A substr OF ONE BYTE ('hp'): "Count counts the number of non-overlapping instances of substr in s.": IT RETURNS 'Lib.countByte s (that byte)'; the world is as it was. ✋ NO CONTRACT HERE YET at an empty substr (utf8.RuneCountInString) or at a longer one (a loop over strings.Index). (LAID: no walk: one application.) -/
theorem Tryd.strings_Count_one (s : ByteArray) (c : UInt8) (w : World) :
    Calls Tryd.prog 40 #[.string s, .string ⟨#[c]⟩] w fun e w' => e = .returned (.int .i64 (Lib.countByte s.data.toList c)) ∧ w' = w := Any.strings_Count_one Tryd.lays138 s c w
open Go.RowKit Go.Lib in
/-- strings.Count AT A substr OF TWO BYTES OR MORE: "Count counts the number of non-overlapping instances of substr in s.": IT RETURNS 'Lib.count s substr'; the world is as it was. (LAID: no walk: one application.) -/
theorem Tryd.strings_Count (s sub : ByteArray) (m : Int) (w : World) (hs : s.size < 4294967281) (hm : w.cell? ⟨0, 0, none⟩ = some (.int .i64 m)) (h2 : 2 ≤ sub.size) :
    Calls Tryd.prog 40 #[.string s, .string sub] w fun e w' => e = .returned (.int .i64 (Lib.countB s sub)) ∧ w' = w := Any.strings_Count Tryd.lays138 s sub m w hs hm h2
def Tryd.laysM219_ren : Go.Shelf.Ren := ⟨fun | 219 => 47 | 217 => 49 | 225 => 50 | 224 => 51 | 267 => 52 | 266 => 53 | 314 => 54 | n => n, fun | 9 => 9 | 3 => 3 | 4 => 4 | 5 => 5 | 46 => 90 | 146 => 96 | 51 => 95 | n => n, fun | 1 => 0 | n => n⟩
theorem Tryd.laysM219 : Go.Proofs.LaysM.n219 Tryd.prog Tryd.laysM219_ren := {
  mixed := by kernel_rfl
  f217 := Tryd.func49.trans (congrArg some (by kernel_rfl))
  f219 := Tryd.func47.trans (congrArg some (by kernel_rfl))
  f224 := Tryd.func51.trans (congrArg some (by kernel_rfl))
  f225 := Tryd.func50.trans (congrArg some (by kernel_rfl))
  f266 := Tryd.func53.trans (congrArg some (by kernel_rfl))
  f267 := Tryd.func52.trans (congrArg some (by kernel_rfl))
  f314 := Tryd.func54.trans (congrArg some (by kernel_rfl))
  t3 := Tryd.underlying3
  a3 := Tryd.isAgg3
  z3 := Tryd.sizeOf3
  v3 := Tryd.zeroValue3
  t4 := Tryd.underlying4
  a4 := Tryd.isAgg4
  z4 := Tryd.sizeOf4
  v4 := Tryd.zeroValue4
  t5 := Tryd.underlying5
  a5 := Tryd.isAgg5
  z5 := Tryd.sizeOf5
  v5 := Tryd.zeroValue5
  t9 := Tryd.underlying9
  a9 := Tryd.isAgg9
  z9 := Tryd.sizeOf9
  v9 := Tryd.zeroValue9
  t46 := Tryd.underlying90
  a46 := Tryd.isAgg90
  z46 := Tryd.sizeOf90
  v46 := Tryd.zeroValue90
  t51 := Tryd.underlying95
  a51 := Tryd.isAgg95
  z51 := Tryd.sizeOf95
  v51 := Tryd.zeroValue95
  t146 := Tryd.underlying96
  a146 := Tryd.isAgg96
  z146 := Tryd.sizeOf96
  v146 := Tryd.zeroValue96
  g1 := by kernel_rfl
  i3 := by kernel_rfl
  i4 := by kernel_rfl
  i5 := by kernel_rfl
  i9 := by kernel_rfl
  i46 := by kernel_rfl
  i51 := by kernel_rfl
  i146 := by kernel_rfl
  m1 := by kernel_rfl
  s1_3 := fun w h => Go.Proofs.cell_of_shapedOpen_int (zero := #[.int .i64 0]) (t := 3) h (of_decide_eq_true (by kernel_rfl)) (by kernel_rfl) rfl (by kernel_rfl) (by kernel_rfl) Tryd.underlying3 }
open Go.RowKit Go.Lib in
theorem Tryd.stringslite_Index_shaped (s sub : ByteArray) (w : World) (h : w.ShapedOpen Tryd.prog) (hs : s.size < 4294967281) :
    Calls Tryd.prog 47 #[.string s, .string sub] w fun e w' => e = .returned (.int .i64 (Lib.index s.data.toList sub.data.toList)) ∧ w' = w := Any.stringslite_Index_shaped Tryd.laysM219 s sub w h hs
def Tryd.laysM143_ren : Go.Shelf.Ren := ⟨fun | 143 => 41 | 219 => 47 | 217 => 49 | 225 => 50 | 224 => 51 | 267 => 52 | 266 => 53 | 314 => 54 | n => n, fun | 9 => 9 | 3 => 3 | 4 => 4 | 5 => 5 | 46 => 90 | 146 => 96 | 51 => 95 | n => n, fun | 1 => 0 | n => n⟩
theorem Tryd.laysM143 : Go.Proofs.LaysM.n143 Tryd.prog Tryd.laysM143_ren := {
  mixed := by kernel_rfl
  f143 := Tryd.func41.trans (congrArg some (by kernel_rfl))
  f217 := Tryd.func49.trans (congrArg some (by kernel_rfl))
  f219 := Tryd.func47.trans (congrArg some (by kernel_rfl))
  f224 := Tryd.func51.trans (congrArg some (by kernel_rfl))
  f225 := Tryd.func50.trans (congrArg some (by kernel_rfl))
  f266 := Tryd.func53.trans (congrArg some (by kernel_rfl))
  f267 := Tryd.func52.trans (congrArg some (by kernel_rfl))
  f314 := Tryd.func54.trans (congrArg some (by kernel_rfl))
  t3 := Tryd.underlying3
  a3 := Tryd.isAgg3
  z3 := Tryd.sizeOf3
  v3 := Tryd.zeroValue3
  t4 := Tryd.underlying4
  a4 := Tryd.isAgg4
  z4 := Tryd.sizeOf4
  v4 := Tryd.zeroValue4
  t5 := Tryd.underlying5
  a5 := Tryd.isAgg5
  z5 := Tryd.sizeOf5
  v5 := Tryd.zeroValue5
  t9 := Tryd.underlying9
  a9 := Tryd.isAgg9
  z9 := Tryd.sizeOf9
  v9 := Tryd.zeroValue9
  t46 := Tryd.underlying90
  a46 := Tryd.isAgg90
  z46 := Tryd.sizeOf90
  v46 := Tryd.zeroValue90
  t51 := Tryd.underlying95
  a51 := Tryd.isAgg95
  z51 := Tryd.sizeOf95
  v51 := Tryd.zeroValue95
  t146 := Tryd.underlying96
  a146 := Tryd.isAgg96
  z146 := Tryd.sizeOf96
  v146 := Tryd.zeroValue96
  g1 := by kernel_rfl
  i3 := by kernel_rfl
  i4 := by kernel_rfl
  i5 := by kernel_rfl
  i9 := by kernel_rfl
  i46 := by kernel_rfl
  i51 := by kernel_rfl
  i146 := by kernel_rfl
  m1 := by kernel_rfl
  s1_3 := fun w h => Go.Proofs.cell_of_shapedOpen_int (zero := #[.int .i64 0]) (t := 3) h (of_decide_eq_true (by kernel_rfl)) (by kernel_rfl) rfl (by kernel_rfl) (by kernel_rfl) Tryd.underlying3 }
open Go.RowKit Go.Lib in
theorem Tryd.strings_Index_shaped (s sub : ByteArray) (w : World) (h : w.ShapedOpen Tryd.prog) (hs : s.size < 4294967281) :
    Calls Tryd.prog 41 #[.string s, .string sub] w fun e w' => e = .returned (.int .i64 (Lib.index s.data.toList sub.data.toList)) ∧ w' = w := Any.strings_Index_shaped Tryd.laysM143 s sub w h hs
def Tryd.laysM138_ren : Go.Shelf.Ren := ⟨fun | 138 => 40 | 195 => 44 | 218 => 46 | 143 => 41 | 219 => 47 | 217 => 49 | 225 => 50 | 224 => 51 | 267 => 52 | 266 => 53 | 314 => 54 | n => n, fun | 9 => 9 | 3 => 3 | 4 => 4 | 5 => 5 | 0 => 0 | 46 => 90 | 146 => 96 | 51 => 95 | n => n, fun | 1 => 0 | n => n⟩
theorem Tryd.laysM138 : Go.Proofs.LaysM.n138 Tryd.prog Tryd.laysM138_ren := {
  mixed := by kernel_rfl
  f138 := Tryd.func40.trans (congrArg some (by kernel_rfl))
  f143 := Tryd.func41.trans (congrArg some (by kernel_rfl))
  f195 := Tryd.func44.trans (congrArg some (by kernel_rfl))
  f217 := Tryd.func49.trans (congrArg some (by kernel_rfl))
  f218 := Tryd.func46.trans (congrArg some (by kernel_rfl))
  f219 := Tryd.func47.trans (congrArg some (by kernel_rfl))
  f224 := Tryd.func51.trans (congrArg some (by kernel_rfl))
  f225 := Tryd.func50.trans (congrArg some (by kernel_rfl))
  f266 := Tryd.func53.trans (congrArg some (by kernel_rfl))
  f267 := Tryd.func52.trans (congrArg some (by kernel_rfl))
  f314 := Tryd.func54.trans (congrArg some (by kernel_rfl))
  t0 := Tryd.underlying0
  a0 := Tryd.isAgg0
  z0 := Tryd.sizeOf0
  v0 := Tryd.zeroValue0
  t3 := Tryd.underlying3
  a3 := Tryd.isAgg3
  z3 := Tryd.sizeOf3
  v3 := Tryd.zeroValue3
  t4 := Tryd.underlying4
  a4 := Tryd.isAgg4
  z4 := Tryd.sizeOf4
  v4 := Tryd.zeroValue4
  t5 := Tryd.underlying5
  a5 := Tryd.isAgg5
  z5 := Tryd.sizeOf5
  v5 := Tryd.zeroValue5
  t9 := Tryd.underlying9
  a9 := Tryd.isAgg9
  z9 := Tryd.sizeOf9
  v9 := Tryd.zeroValue9
  t46 := Tryd.underlying90
  a46 := Tryd.isAgg90
  z46 := Tryd.sizeOf90
  v46 := Tryd.zeroValue90
  t51 := Tryd.underlying95
  a51 := Tryd.isAgg95
  z51 := Tryd.sizeOf95
  v51 := Tryd.zeroValue95
  t146 := Tryd.underlying96
  a146 := Tryd.isAgg96
  z146 := Tryd.sizeOf96
  v146 := Tryd.zeroValue96
  g1 := by kernel_rfl
  i0 := by kernel_rfl
  i3 := by kernel_rfl
  i4 := by kernel_rfl
  i5 := by kernel_rfl
  i9 := by kernel_rfl
  i46 := by kernel_rfl
  i51 := by kernel_rfl
  i146 := by kernel_rfl
  m1 := by kernel_rfl
  s1_3 := fun w h => Go.Proofs.cell_of_shapedOpen_int (zero := #[.int .i64 0]) (t := 3) h (of_decide_eq_true (by kernel_rfl)) (by kernel_rfl) rfl (by kernel_rfl) (by kernel_rfl) Tryd.underlying3 }
open Go.RowKit Go.Lib in
theorem Tryd.strings_Count_shaped (s sub : ByteArray) (w : World) (h : w.ShapedOpen Tryd.prog) (hs : s.size < 4294967281) (h2 : 2 ≤ sub.size) :
    Calls Tryd.prog 40 #[.string s, .string sub] w fun e w' => e = .returned (.int .i64 (Lib.countB s sub)) ∧ w' = w := Any.strings_Count_shaped Tryd.laysM138 s sub w h hs h2
def Tryd.lays260_ren : Go.Shelf.Ren := ⟨fun | 260 => 48 | n => n, fun | 9 => 9 | 21 => 21 | 3 => 3 | 4 => 4 | 5 => 5 | 119 => 91 | 0 => 0 | 46 => 90 | 139 => 94 | 138 => 93 | n => n, fun | 3 => 1 | 4 => 2 | n => n⟩
theorem Tryd.lays260 : Go.Proofs.Lays.n260 Tryd.prog Tryd.lays260_ren := {
  mixed := by kernel_rfl
  f260 := Tryd.func48.trans (congrArg some (by kernel_rfl))
  t0 := Tryd.underlying0
  a0 := Tryd.isAgg0
  z0 := Tryd.sizeOf0
  v0 := Tryd.zeroValue0
  t3 := Tryd.underlying3
  a3 := Tryd.isAgg3
  z3 := Tryd.sizeOf3
  v3 := Tryd.zeroValue3
  t4 := Tryd.underlying4
  a4 := Tryd.isAgg4
  z4 := Tryd.sizeOf4
  v4 := Tryd.zeroValue4
  t5 := Tryd.underlying5
  a5 := Tryd.isAgg5
  z5 := Tryd.sizeOf5
  v5 := Tryd.zeroValue5
  t9 := Tryd.underlying9
  a9 := Tryd.isAgg9
  z9 := Tryd.sizeOf9
  v9 := Tryd.zeroValue9
  t21 := Tryd.underlying21
  a21 := Tryd.isAgg21
  z21 := Tryd.sizeOf21
  v21 := Tryd.zeroValue21
  t46 := Tryd.underlying90
  a46 := Tryd.isAgg90
  z46 := Tryd.sizeOf90
  v46 := Tryd.zeroValue90
  t119 := Tryd.underlying91
  a119 := Tryd.isAgg91
  z119 := Tryd.sizeOf91
  t138 := Tryd.underlying93
  a138 := Tryd.isAgg93
  z138 := Tryd.sizeOf93
  v138 := Tryd.zeroValue93
  t139 := Tryd.underlying94
  a139 := Tryd.isAgg94
  z139 := Tryd.sizeOf94
  v139 := Tryd.zeroValue94
  g3 := by kernel_rfl
  g4 := by kernel_rfl }
open Go.RowKit Go.Lib in
theorem Tryd.utf8_decodeRuneInStringSlow (s : ByteArray) (w : World) (hT : Lib.Utf8Tabs 1 2 w) :
    Calls Tryd.prog 48 #[.string s] w fun e w' => e = .returned (.tuple #[.int .i32 (Lib.decodeGo s).1, .int .i64 (Lib.decodeGo s).2]) ∧ Below w.heap.size w w' := Any.utf8_decodeRuneInStringSlow Tryd.lays260 s w hT
end Go.Proofs

namespace Go.Proofs.YtgldagkdfhabbaaDoor
open Go.Sy
set_option maxRecDepth 100000
def stL (b : List UInt8) : List D := [.st b]
theorem arr2 {vs : Array Value} (h : vs.size = 2) : vs = #[vs.getD 0 undef, vs.getD 1 undef] := by
  apply Array.ext
  · simpa using h
  · intro i h1 h2
    have : i = 0 ∨ i = 1 := by simp at h2; omega
    rcases this with rfl | rfl <;> simp [Array.getD, h]
theorem join_ok (xs : List (List UInt8)) (sep : List UInt8) (hn : xs.length ≤ 1000000) (hl : (Lib.join xs sep).length ≤ 140737488355328) : FnC Tryd.prog 20 [.d (.fs 1 (xs.map stL)), .d (.st sep)] (.d (.st (Lib.join xs sep))) := by
  refine ⟨rfl, fun g w vs hfz hsz hav => .inl ⟨Tryd.call20 _ _, ?_⟩⟩
  have ha := hav 0 (by simp)
  have hb := hav 1 (by simp)
  rw [arr2 hsz]
  simp only [List.getElem_cons_zero, List.getElem_cons_succ] at ha hb
  generalize vs.getD 0 undef = a at ha
  generalize vs.getD 1 undef = b at hb
  cases hb with | d _ _ hb => ?_
  cases hb with | st => ?_
  cases ha with | d _ _ ha => ?_
  generalize hes : xs.map stL = es at ha
  cases ha with
  | fs0 _ ad cap =>
    have : xs = [] := by simpa using hes
    subst this
    refine (Tryd.strings_Join_none ad cap _ w).mono ?_
    rintro e w' ⟨rfl, rfl⟩
    exact ⟨_, g, rfl, .d _ _ (.st []), fun _ _ _ h => h, fun _ _ _ h => .inl h, hfz, Nat.le_refl _, fun _ _ => rfl, rfl, rfl, rfl⟩
  | fs _ _ b off len cap f hlen hc hs hF hr =>
    by_cases h0 : xs = []
    · subst h0
      have hl0 : len = 0 := by rw [← hlen, ← hes]; rfl
      subst hl0
      refine (Tryd.strings_Join_none _ cap _ w).mono ?_
      rintro e w' ⟨rfl, rfl⟩
      exact ⟨_, g, rfl, .d _ _ (.st []), fun _ _ _ h => h, fun _ _ _ h => .inl h, hfz, Nat.le_refl _, fun _ _ => rfl, rfl, rfl, rfl⟩
    have hxl : xs.length = len := by rw [← hlen, ← hes]; simp
    have hval : ∀ j (hj : j < xs.length), f j 0 = .string ⟨xs[j].toArray⟩ := fun j hj => by
      subst hes
      have hr := hr j (by simpa using hj) 0 (by simp [stL])
      simp only [List.getElem_map, stL, List.getElem_cons_zero] at hr
      generalize f j 0 = z at hr
      cases hr; rfl
    have hcell : ∀ j (hj : j < xs.length), w.cell? ⟨b, off + j, none⟩ = some (.string ⟨xs[j].toArray⟩) := fun j hj => by
      have := hfz _ _ _ (hF j 0 (by omega) (by omega))
      rw [hval j hj] at this
      rw [← this]; simp
    have hpos : 0 < xs.length := by
      rcases Nat.eq_zero_or_pos xs.length with h | h
      · exact absurd (List.length_eq_zero_iff.1 h) h0
      · exact h
    have hbk : b < w.heap.size := by
      have := hcell 0 hpos
      rcases Nat.lt_or_ge b w.heap.size with h' | h'
      · exact h'
      · simp [World.cell?, Array.getElem?_eq_none h'] at this
    have hxs : (xs.map fun x => (⟨x.toArray⟩ : ByteArray)).map (·.data.toList) = xs := by
      rw [List.map_map]
      exact List.map_id' xs
    have := Tryd.strings_Join b off cap (xs.map fun x => (⟨x.toArray⟩ : ByteArray)) ⟨sep.toArray⟩ w (fun j x hj => by
      simp only [List.getElem?_map, Option.map_eq_some_iff] at hj
      obtain ⟨y, hy, rfl⟩ := hj
      obtain ⟨hj', rfl⟩ := List.getElem?_eq_some_iff.1 hy
      exact hcell j hj') hbk (by simp; omega) (by simp; omega) (by rw [hxs]; simpa using hl)
    rw [hxs] at this
    simp only [List.length_map, hxl] at this
    refine this.mono ?_
    rintro e w' ⟨rfl, hB⟩
    exact ⟨_, g, rfl, .d _ _ (.st _), fun _ _ _ h => h, fun _ _ _ h => .inl h, fun b' o v h => by
      have hc := hfz b' o v h
      have hb' : b' < w.heap.size := by
        rcases Nat.lt_or_ge b' w.heap.size with h' | h'
        · exact h'
        · simp [World.cell?, Array.getElem?_eq_none h'] at hc
      rw [← hc]
      simp only [World.cell?, hB.block b' hb'], hB.size, hB.block, hB.os, hB.tape, hB.output⟩
end Go.Proofs.YtgldagkdfhabbaaDoor

namespace Go.Proofs.YtgldagkdfhabbaaDoor
open Go.Sy
set_option maxRecDepth 100000
theorem two_st {g : Gh} {vs : Array Value} {s t : List UInt8} (hsz : vs.size = 2) (hav : ∀ (j : Nat) (h : j < [AV.d (.st s), AV.d (.st t)].length), AVR g [AV.d (.st s), AV.d (.st t)][j] (vs.getD j undef)) : vs = #[.string ⟨s.toArray⟩, .string ⟨t.toArray⟩] := by
  have ha := hav 0 (by simp)
  have hb := hav 1 (by simp)
  rw [arr2 hsz]
  simp only [List.getElem_cons_zero, List.getElem_cons_succ] at ha hb
  generalize vs.getD 0 undef = a at ha
  generalize vs.getD 1 undef = b at hb
  cases hb with | d _ _ hb => ?_
  cases hb with | st => ?_
  cases ha with | d _ _ ha => ?_
  cases ha with | st => ?_
  rfl
theorem still_ok {f : Nat} {s t : List UInt8} {k : Int} (hc : ∀ (vs : Array Value) (w : World), (callFunc f vs).run Tryd.prog w = .ok (.enter f vs) w) (h : ∀ w, Calls Tryd.prog f #[.string ⟨s.toArray⟩, .string ⟨t.toArray⟩] w fun e w' => e = .returned (.int .i64 k) ∧ w' = w) : FnC Tryd.prog f [.d (.st s), .d (.st t)] (.d (.it .i64 k)) := by
  refine ⟨rfl, fun g w vs hfz hsz hav => .inl ⟨hc _ _, ?_⟩⟩
  rw [two_st hsz hav]
  refine (h w).mono ?_
  rintro e w' ⟨rfl, rfl⟩
  exact ⟨_, g, rfl, .d _ _ (.it _ _), fun _ _ _ h => h, fun _ _ _ h => .inl h, hfz, Nat.le_refl _, fun _ _ => rfl, rfl, rfl, rfl⟩
theorem index_ok (s : List UInt8) (c : UInt8) : FnC Tryd.prog 41 [.d (.st s), .d (.st [c])] (.d (.it .i64 (Lib.indexByte s c))) := still_ok Tryd.call41 fun w => Tryd.strings_Index_one ⟨s.toArray⟩ c w
theorem count_ok (s : List UInt8) (c : UInt8) : FnC Tryd.prog 40 [.d (.st s), .d (.st [c])] (.d (.it .i64 (Lib.countByte s c))) := still_ok Tryd.call40 fun w => Tryd.strings_Count_one ⟨s.toArray⟩ c w
end Go.Proofs.YtgldagkdfhabbaaDoor

namespace Go.Proofs.YtgldagkdfhabbaaDoor
open Go.Sy
def splitW : List UInt8 → List (List UInt8)
  | [] => [[]]
  | b :: t => if b = 32 then [] :: splitW t else match splitW t with
    | [] => [[b]]
    | w :: r => (b :: w) :: r
theorem splitW_none : ∀ (s : List UInt8), Lib.indexByte s 32 = -1 → splitW s = [s]
  | [], _ => rfl
  | b :: t, h => by
    unfold Lib.indexByte at h
    have hge := Lib.indexByte_ge t 32
    by_cases hb : b = 32
    · subst hb; simp at h
    · have hb' : (b == 32) = false := by simpa using hb
      rw [hb'] at h
      simp only [Bool.false_eq_true, if_false] at h
      have ht : Lib.indexByte t 32 = -1 := by
        by_cases h1 : Lib.indexByte t 32 = -1
        · exact h1
        · have : (Lib.indexByte t 32 == -1) = false := by simpa using h1
          rw [this] at h
          simp only [Bool.false_eq_true, if_false] at h
          omega
      simp only [splitW, if_neg hb, splitW_none t ht]
theorem splitW_some : ∀ (s : List UInt8), 0 ≤ Lib.indexByte s 32 → Lib.indexByte s 32 < s.length ∧ splitW s = s.take (Lib.indexByte s 32).toNat :: splitW (s.drop ((Lib.indexByte s 32).toNat + 1)) ∧ s.count 32 = 1 + (s.drop ((Lib.indexByte s 32).toNat + 1)).count 32
  | [], h => by simp [Lib.indexByte] at h
  | b :: t, h => by
    have hge := Lib.indexByte_ge t 32
    by_cases hb : b = 32
    · subst hb
      have e : Lib.indexByte (32 :: t) 32 = 0 := by simp [Lib.indexByte]
      rw [e]
      refine ⟨by simp, by simp [splitW], by simp; omega⟩
    · have hb' : (b == 32) = false := by simpa using hb
      have e : Lib.indexByte (b :: t) 32 = if Lib.indexByte t 32 == -1 then -1 else Lib.indexByte t 32 + 1 := by simp [Lib.indexByte, hb]
      rw [e] at h ⊢
      by_cases h1 : Lib.indexByte t 32 = -1
      · rw [h1] at h; simp at h
      · have h2 : (Lib.indexByte t 32 == -1) = false := by simpa using h1
        rw [h2] at h ⊢
        simp only [Bool.false_eq_true, if_false] at h ⊢
        obtain ⟨k1, k2, k3⟩ := splitW_some t (by omega)
        have hn : (Lib.indexByte t 32 + 1).toNat = (Lib.indexByte t 32).toNat + 1 := by omega
        rw [hn]
        refine ⟨by simp; omega, ?_, ?_⟩
        · simp only [splitW, if_neg hb, k2, List.take_succ_cons, List.drop_succ_cons]
        · simp only [List.drop_succ_cons, List.count_cons, hb', Bool.false_eq_true, if_false, Nat.add_zero]
          exact k3
theorem count_none : ∀ (s : List UInt8), Lib.indexByte s 32 = -1 → s.count 32 = 0 := by
  intro s
  induction s with
  | nil => intro _; rfl
  | cons b t ih =>
    intro h
    have hge := Lib.indexByte_ge t 32
    by_cases hb : b = 32
    · subst hb; simp [Lib.indexByte] at h
    · have e : Lib.indexByte (b :: t) 32 = if Lib.indexByte t 32 == -1 then -1 else Lib.indexByte t 32 + 1 := by simp [Lib.indexByte, hb]
      rw [e] at h
      by_cases h1 : Lib.indexByte t 32 = -1
      · have hb' : (b == 32) = false := by simpa using hb
        simp only [List.count_cons, hb', Bool.false_eq_true, if_false, Nat.add_zero]
        exact ih h1
      · have h2 : (Lib.indexByte t 32 == -1) = false := by simpa using h1
        rw [h2] at h
        simp only [Bool.false_eq_true, if_false] at h
        omega
theorem splitW_len (s : List UInt8) : (splitW s).length = s.count 32 + 1 := by
  induction s with
  | nil => rfl
  | cons b t ih =>
    by_cases hb : b = 32
    · subst hb; simp [splitW, ih]
    · have hb' : (b == 32) = false := by simpa using hb
      simp only [splitW, if_neg hb, List.count_cons, hb', Bool.false_eq_true, if_false, Nat.add_zero]
      rw [← ih]
      cases h : splitW t with
      | nil => rw [h] at ih; simp at ih
      | cons w r => simp
end Go.Proofs.YtgldagkdfhabbaaDoor

namespace Go.Proofs.YtgldagkdfhabbaaDoor
open Go.Sy
set_option maxRecDepth 100000
def stA (b : List UInt8) : AV := .d (.st b)
def gsA (n : Nat) : List (List UInt8) × List UInt8 → S | (x, s) => ⟨[(0, .d (.st s)), (1, .d (.st [32])), (2, .d (.it .i64 0)), (3, .d (.it .i64 n)), (9, .ms 1 1 0 (n + 1) (n + 1)), (10, .d (.it .i64 x.length))], [(1, .cells (n + 1) (x.map stA ++ List.replicate (n + 1 - x.length) (stA [])))], 2⟩
theorem zeros_st (n : Nat) : (zeros n [D.st []]).map toA = List.replicate n (stA []) := by
  induction n with
  | zero => rfl
  | succ n ih => simp only [zeros, List.map_append, ih, List.replicate_succ]; rfl
theorem idx_lt (r : List UInt8) : Lib.indexByte r 32 < r.length := by
  by_cases h : 0 ≤ Lib.indexByte r 32
  · exact (splitW_some r h).1
  · omega
theorem none_of {r : List UInt8} (h : r.count 32 = 0) : Lib.indexByte r 32 = -1 := by
  by_cases h0 : 0 ≤ Lib.indexByte r 32
  · have := (splitW_some r h0).2.2
    omega
  · have := Lib.indexByte_ge r 32
    omega
theorem take_all {α : Type} {l : List α} {n : Nat} (h : l.length = n) : l.take n = l := by subst h; exact List.take_length
theorem upd_row (x : List AV) (m : Nat) (z v : AV) : (x ++ List.replicate m z).take x.length ++ [v] ++ (x ++ List.replicate m z).drop (x.length + 1) = x ++ v :: List.replicate (m - 1) z := by
  rw [List.take_left, List.drop_append, List.drop_eq_nil_of_le (by omega), List.nil_append, List.append_assoc]
  congr 1
  simp [show x.length + 1 - x.length = 1 by omega]
theorem flat_st (x : List (List UInt8)) : ((x.map stL).flatten).map AV.d = x.map stA := by
  induction x with
  | nil => rfl
  | cons a t ih => simp only [List.map_cons, List.flatten_cons, List.map_append, ih]; rfl
theorem all_stA (l : List (List UInt8)) (m : Nat) : (l.map stA).all (AV.lt1 m) = true := by
  rw [List.all_eq_true]
  intro x hx
  obtain ⟨b, _, rfl⟩ := List.mem_map.1 hx
  rfl
theorem fin_of (x : List (List UInt8)) (r : List UInt8) (n : Nat) (hl : x.length = n) : (List.drop 0 ((x.map stA ++ List.replicate (n + 1 - x.length) (stA [])).take x.length ++ [AV.d (.st r)] ++ (x.map stA ++ List.replicate (n + 1 - x.length) (stA [])).drop (x.length + 1))).take (((x.length : Int) + 1).toNat * 1) = List.map AV.d (List.map stL (x ++ [r])).flatten := by
  have := upd_row (x.map stA) (n + 1 - x.length) (stA []) (.d (.st r))
  rw [List.length_map] at this
  rw [List.drop_zero, this, flat_st, show n + 1 - x.length - 1 = 0 by omega]
  rw [List.take_of_length_le (by rw [List.length_append, List.length_map]; simp), List.map_append]; rfl
theorem genSplit_ok (s : List UInt8) (hs : s.length ≤ 1000000) : FnC Tryd.prog 35 [.d (.st s), .d (.st [32]), .d (.it .i64 0), .d (.it .i64 (-1))] (.d (.fs 1 ((splitW s).map stL))) := by
  refine FnC.intro ti_ok Tryd.func35 rfl Tryd.ntmps35 Tryd.call35 rfl (Nat.le_of_ble_eq_true rfl) rfl ?_
  have hcnt : s.count 32 ≤ s.length := List.count_le_length
  have hc0 : Lib.countByte s 32 = s.count 32 := rfl
  (repeat' ((conv => whnf); first | with_reducible refine Spl.tt ?_ | with_reducible refine Spl.ff ?_ | refine CallP.mk ⟨_, count_ok s 32, ?_⟩ | with_reducible refine LetI.eq ((s.count 32 + 1 : Nat) : Int) (by split <;> omega) ?_ | with_reducible refine LetN.eq (s.count 32 + 1) (by omega) ?_ | with_reducible refine LetI.i64 (by first | omega | (simp only [List.length_cons, List.length_nil]; omega)) ?_ | with_reducible refine LetI.u64 (by omega) ?_ | with_reducible refine LetI.u8 (by omega) ?_ | with_reducible refine LetI.i64q (by omega) ?_ | with_reducible refine LetI.u64q (by omega) ?_ | with_reducible refine LetI.rem (by omega) ?_ | with_reducible refine LetN.mk ?_ | with_reducible refine And.intro (by first | omega | (dsimp only; omega) | (simp only [List.length_cons, List.length_nil]; omega)) ?_ | with_reducible refine cond_tt (by first | rfl | exact ble_tt (by omega) | exact band_tt rfl (ble_tt (by omega))) ?_ | with_reducible refine Spl.yes (by (first | with_unfolding_all exact rfl | with_reducible assumption | exact dtt (by omega) | exact ett (by omega) | exact ntt (by omega))) ?_ | with_reducible refine Spl.no (by (first | with_unfolding_all exact rfl | with_reducible assumption | exact dff (by omega) | exact eff (by omega) | exact nff (by omega))) ?_ | with_reducible refine Spl.pd (fun h => ?_) (fun h => ?_) | with_reducible refine Spl.peq (fun h => ?_) (fun h => ?_) | with_reducible refine Spl.pne (fun h => ?_) (fun h => ?_) | with_reducible refine Spl.seq (fun h => ?_) (fun h => ?_) | with_reducible refine Spl.sne (fun h => ?_) (fun h => ?_) | with_reducible refine Spl.nt ?_ | with_reducible refine Spl.mk (fun h => ?_) (fun h => ?_)))
  have hz := zeros_st (s.count 32 + 1)
  refine loop_rule ti_ok (fun x : List (List UInt8) × List UInt8 => splitW s = x.1 ++ splitW x.2 ∧ x.1.length + x.2.count 32 = s.count 32 ∧ x.2.length ≤ s.length) (gsA (s.count 32)) (fun x => s.count 32 - x.1.length) ([], s) ⟨rfl, by simp, Nat.le_refl _⟩ ⟨⟨rfl, rfl, rfl, it_eq ?_, rfl, rfl, trivial⟩, ⟨cells_eq (Nat.mul_one _) hz, trivial⟩, ?_⟩ ?_
  · omega
  · simp only [S.ok, gsA, List.all_cons, List.all_nil, List.map_nil, List.nil_append, Ob.lt]
    rw [List.all_eq_true.2 (fun x hx => by rw [List.eq_of_mem_replicate hx]; rfl)]
    rfl
  intro ⟨x, r⟩ ⟨i1, i2, i3⟩
  simp only at i1 i2 i3
  have hlt := idx_lt r
  (repeat' ((conv => whnf); first | with_reducible refine Spl.tt ?_ | with_reducible refine Spl.ff ?_ | refine CallP.mk ⟨_, index_ok r 32, ?_⟩ | with_reducible refine LetN.eq x.length (by dsimp only; omega) ?_ | with_reducible refine LetI.i64 (by first | omega | (simp only [List.length_cons, List.length_nil]; omega)) ?_ | with_reducible refine LetI.u64 (by omega) ?_ | with_reducible refine LetI.u8 (by omega) ?_ | with_reducible refine LetI.i64q (by omega) ?_ | with_reducible refine LetI.u64q (by omega) ?_ | with_reducible refine LetI.rem (by omega) ?_ | with_reducible refine LetN.mk ?_ | with_reducible refine And.intro (by first | omega | (dsimp only; omega) | (simp only [List.length_cons, List.length_nil]; omega)) ?_ | with_reducible refine cond_tt (by first | rfl | exact ble_tt (by omega) | exact band_tt rfl (ble_tt (by omega))) ?_ | with_reducible refine Spl.yes (by (first | with_unfolding_all exact rfl | with_reducible assumption | exact dtt (by omega) | exact ett (by omega) | exact ntt (by omega))) ?_ | with_reducible refine Spl.no (by (first | with_unfolding_all exact rfl | with_reducible assumption | exact dff (by omega) | exact eff (by omega) | exact nff (by omega))) ?_ | with_reducible refine Spl.pd (fun h => ?_) (fun h => ?_) | with_reducible refine Spl.peq (fun h => ?_) (fun h => ?_) | with_reducible refine Spl.pne (fun h => ?_) (fun h => ?_) | with_reducible refine Spl.seq (fun h => ?_) (fun h => ?_) | with_reducible refine Spl.sne (fun h => ?_) (fun h => ?_) | with_reducible refine Spl.nt ?_ | with_reducible refine Spl.mk (fun h => ?_) (fun h => ?_)))
  · have hn : Lib.indexByte r 32 = -1 := by have := Lib.indexByte_ge r 32; omega
    have h0 := count_none r hn
    have hl : x.length = s.count 32 := by omega
    refine ⟨(splitW s).map stL, ⟨?_, ?_, ?_, ?_⟩, rfl⟩
    · dsimp only; omega
    · simp only [List.length_map, splitW_len]; omega
    · intro y hy
      obtain ⟨z, _, rfl⟩ := List.mem_map.1 hy
      rfl
    · rw [i1, splitW_none r hn]
      exact fin_of x r _ hl
  · have h0 : 0 ≤ Lib.indexByte r 32 := by omega
    obtain ⟨k1, k2, k3⟩ := splitW_some r h0
    have e1 : (Lib.indexByte r 32 + ([32] : List UInt8).length).toNat = (Lib.indexByte r 32).toNat + 1 := by simp only [List.length_cons, List.length_nil]; omega
    refine again ((x ++ [r.take (Lib.indexByte r 32).toNat], r.drop ((Lib.indexByte r 32).toNat + 1)) : List (List UInt8) × List UInt8) ⟨?_, ?_, ?_⟩ (by show _ - (x ++ _).length < _ - x.length; rw [List.length_append, List.length_singleton]; omega) (And.intro (st_eq ?_) (And.intro rfl (And.intro rfl (And.intro rfl (And.intro rfl (And.intro (it_eq ?_) trivial)))))) (And.intro (cells_eq rfl ?_) trivial) ?_
    · rw [i1, k2, List.append_assoc]; rfl
    · show (x ++ _).length + (List.drop _ r).count 32 = _
      rw [List.length_append, List.length_singleton]; omega
    · show (List.drop _ r).length ≤ _
      rw [List.length_drop]; omega
    · rw [e1]
    · rw [List.length_append, List.length_singleton]; rfl
    · have := upd_row (x.map stA) (s.count 32 + 1 - x.length) (stA []) (stA (r.take (Lib.indexByte r 32).toNat))
      rw [List.length_map] at this
      rw [List.map_append, List.length_append, List.length_singleton]
      refine Eq.trans ?_ (this.trans ?_)
      · simp only [Int.add_zero]; rfl
      · rw [show s.count 32 + 1 - x.length - 1 = s.count 32 + 1 - (x.length + 1) by omega, List.append_assoc]; rfl
    · simp only [S.ok, gsA, List.all_cons, List.all_nil, Ob.lt, List.all_append, all_stA]
      rw [List.all_eq_true.2 (fun x hx => by rw [List.eq_of_mem_replicate hx]; rfl)]
      rfl
  · have hn : Lib.indexByte r 32 = -1 := none_of (by omega)
    have h0 := count_none r hn
    have hl : x.length = s.count 32 := by omega
    refine ⟨(splitW s).map stL, ⟨?_, ?_, ?_, ?_⟩, rfl⟩
    · dsimp only; omega
    · simp only [List.length_map, splitW_len]; omega
    · intro y hy
      obtain ⟨z, _, rfl⟩ := List.mem_map.1 hy
      rfl
    · rw [i1, splitW_none r hn]
      exact fin_of x r _ hl
end Go.Proofs.YtgldagkdfhabbaaDoor

namespace Go.Proofs.YtgldagkdfhabbaaDoor
open Go.Sy
set_option maxRecDepth 100000
theorem split_ok (s : List UInt8) (hs : s.length ≤ 1000000) : FnC Tryd.prog 23 [.d (.st s), .d (.st [32])] (.d (.fs 1 ((splitW s).map stL))) := by
  refine FnC.intro ti_ok Tryd.func23 rfl Tryd.ntmps23 Tryd.call23 rfl (Nat.le_of_ble_eq_true rfl) rfl ?_
  (repeat' ((conv => whnf); first | with_reducible refine Spl.tt ?_ | with_reducible refine Spl.ff ?_ | refine CallP.mk ⟨_, genSplit_ok s hs, ?_⟩ | with_reducible refine LetI.i64 (by first | omega | (simp only [List.length_cons, List.length_nil]; omega)) ?_ | with_reducible refine LetI.u64 (by omega) ?_ | with_reducible refine LetI.u8 (by omega) ?_ | with_reducible refine LetI.i64q (by omega) ?_ | with_reducible refine LetI.u64q (by omega) ?_ | with_reducible refine LetI.rem (by omega) ?_ | with_reducible refine LetN.mk ?_ | with_reducible refine at_hm (by assumption) ?_ | with_reducible refine at_hb (by assumption) ?_ | with_reducible refine at_natm8 (by omega) (fun x hx hu => ?_) | with_reducible refine at_nat8 (by omega) (fun x hx hu => ?_) | with_reducible refine at_bi8 (by omega) (fun x hx hu => ?_) | with_reducible refine at_natm (by omega) (fun x hx => ?_) | with_reducible refine at_intm (by omega) (fun x hx => ?_) | with_reducible refine at_nat (by omega) (fun x hx => ?_) | with_reducible refine at_bi (by omega) (fun x hx => ?_) | with_reducible refine And.intro (by first | omega | (dsimp only; omega) | (simp only [List.length_cons, List.length_nil]; omega)) ?_ | with_reducible refine cond_tt (by first | rfl | exact ble_tt (by omega) | exact band_tt rfl (ble_tt (by omega))) ?_ | with_reducible refine Spl.yes (by (first | with_unfolding_all exact rfl | with_reducible assumption | exact dtt (by omega) | exact ett (by omega) | exact ntt (by omega))) ?_ | with_reducible refine Spl.no (by (first | with_unfolding_all exact rfl | with_reducible assumption | exact dff (by omega) | exact eff (by omega) | exact nff (by omega))) ?_ | with_reducible refine Spl.pd (fun h => ?_) (fun h => ?_) | with_reducible refine Spl.peq (fun h => ?_) (fun h => ?_) | with_reducible refine Spl.pne (fun h => ?_) (fun h => ?_) | with_reducible refine Spl.seq (fun h => ?_) (fun h => ?_) | with_reducible refine Spl.sne (fun h => ?_) (fun h => ?_) | with_reducible refine Spl.nt ?_ | with_reducible refine Spl.mk (fun h => ?_) (fun h => ?_)))
  rfl
def isDig (c : UInt8) : Bool := decide (48 ≤ c.toNat) && decide (c.toNat ≤ 57)
def val (l : List UInt8) : Int := l.foldl (fun n c => 10 * n + ((c.toNat : Int) - 48)) 0
def numR (s : List UInt8) : Int × Bool := if s = [] ∨ 13 < s.length ∨ (1 < s.length ∧ s[0]? = some 48) ∨ s.all isDig = false ∨ 1000000000000 < val s then (0, false) else (val s, true)
def tup2 (p : Int × Bool) : AV := .tup [.d (.it .i64 p.1), .d (.bl p.2)]
theorem val_snoc {l : List UInt8} {k : Nat} {c : UInt8} (h : l[k]? = some c) : val (l.take (k + 1)) = 10 * val (l.take k) + ((c.toNat : Int) - 48) := by
  rw [val, take_snoc h, List.foldl_append]; rfl
theorem all_snoc {l : List UInt8} {k : Nat} {c : UInt8} (h : l[k]? = some c) : (l.take (k + 1)).all isDig = ((l.take k).all isDig && isDig c) := by
  rw [take_snoc h, List.all_append]; simp
theorem val_bd : ∀ (k : Nat) (l : List UInt8), (l.take k).all isDig = true → 0 ≤ val (l.take k) ∧ val (l.take k) < 10 ^ k
  | 0, l, _ => by simp [val]
  | k + 1, l, h => by
    rcases Nat.lt_or_ge k l.length with hk | hk
    · obtain ⟨c, hc⟩ := lt_get hk
      rw [all_snoc hc, Bool.and_eq_true] at h
      have := val_bd k l h.1
      have h2 := h.2
      simp only [isDig, Bool.and_eq_true, decide_eq_true_eq] at h2
      rw [val_snoc hc, Int.pow_succ]
      omega
    · rw [List.take_of_length_le (by omega)] at h ⊢
      have := val_bd k l (by rw [List.take_of_length_le hk]; exact h)
      rw [List.take_of_length_le hk] at this
      rw [Int.pow_succ]
      omega
theorem not_all {l : List UInt8} {k : Nat} {c : UInt8} (h : l[k]? = some c) (hc : isDig c = false) : l.all isDig = false := by
  rw [List.all_eq_false]
  exact ⟨c, List.mem_of_getElem? h, by simp [hc]⟩
theorem numR_no {s : List UInt8} (h : s = [] ∨ 13 < s.length ∨ (1 < s.length ∧ s[0]? = some 48) ∨ s.all isDig = false ∨ 1000000000000 < val s) : tup2 (numR s) = .tup [.d (.it .i64 0), .d (.bl false)] := by rw [numR, if_pos h]; rfl
theorem numR_yes {s : List UInt8} (h : ¬ (s = [] ∨ 13 < s.length ∨ (1 < s.length ∧ s[0]? = some 48) ∨ s.all isDig = false ∨ 1000000000000 < val s)) : tup2 (numR s) = .tup [.d (.it .i64 (val s)), .d (.bl true)] := by rw [numR, if_neg h]; rfl
theorem pow13 {k : Nat} (h : k ≤ 13) : (10 : Int) ^ k ≤ 10000000000000 := by
  have : (10 : Nat) ^ k ≤ 10 ^ 13 := Nat.pow_le_pow_right (by omega) h
  have h2 : ((10 ^ k : Nat) : Int) ≤ ((10 ^ 13 : Nat) : Int) := Int.ofNat_le.2 this
  simpa using h2
theorem isDig_t {c : UInt8} (h : ¬ (c.toNat : Int) < 48) (h' : ¬ (c.toNat : Int) > 57) : isDig c = true := by simp [isDig]; omega
theorem isDig_f {c : UInt8} (h : (c.toNat : Int) < 48 ∨ (c.toNat : Int) > 57) : isDig c = false := by simp [isDig]; omega
theorem numRef_ok (s : List UInt8) : FnC Tryd.prog 27 [.d (.st s)] (tup2 (numR s)) := by
  refine FnC.intro ti_ok Tryd.func27 rfl Tryd.ntmps27 Tryd.call27 rfl (Nat.le_of_ble_eq_true rfl) rfl ?_
  (repeat' ((conv => whnf); first | with_reducible refine Spl.tt ?_ | with_reducible refine Spl.ff ?_ | with_reducible refine LetI.i64 (by first | omega | (simp only [List.length_cons, List.length_nil]; omega)) ?_ | with_reducible refine LetI.u64 (by omega) ?_ | with_reducible refine LetI.u8 (by omega) ?_ | with_reducible refine LetI.i64q (by omega) ?_ | with_reducible refine LetI.u64q (by omega) ?_ | with_reducible refine LetI.rem (by omega) ?_ | with_reducible refine LetN.mk ?_ | with_reducible refine at_hm (by assumption) ?_ | with_reducible refine at_hb (by assumption) ?_ | with_reducible refine at_natm8 (by omega) (fun x hx hu => ?_) | with_reducible refine at_nat8 (by omega) (fun x hx hu => ?_) | with_reducible refine at_bi8 (by omega) (fun x hx hu => ?_) | with_reducible refine at_natm (by omega) (fun x hx => ?_) | with_reducible refine at_intm (by omega) (fun x hx => ?_) | with_reducible refine at_nat (by omega) (fun x hx => ?_) | with_reducible refine at_bi (by omega) (fun x hx => ?_) | with_reducible refine And.intro (by first | omega | (dsimp only; omega) | (simp only [List.length_cons, List.length_nil]; omega)) ?_ | with_reducible refine cond_tt (by first | rfl | exact ble_tt (by omega) | exact band_tt rfl (ble_tt (by omega))) ?_ | with_reducible refine Spl.yes (by (first | with_unfolding_all exact rfl | with_reducible assumption | exact dtt (by omega) | exact ett (by omega) | exact ntt (by omega))) ?_ | with_reducible refine Spl.no (by (first | with_unfolding_all exact rfl | with_reducible assumption | exact dff (by omega) | exact eff (by omega) | exact nff (by omega))) ?_ | with_reducible refine Spl.pd (fun h => ?_) (fun h => ?_) | with_reducible refine Spl.peq (fun h => ?_) (fun h => ?_) | with_reducible refine Spl.pne (fun h => ?_) (fun h => ?_) | with_reducible refine Spl.seq (fun h => ?_) (fun h => ?_) | with_reducible refine Spl.sne (fun h => ?_) (fun h => ?_) | with_reducible refine Spl.nt ?_ | with_reducible refine Spl.mk (fun h => ?_) (fun h => ?_)))
  · exact (numR_no (.inl (List.length_eq_zero_iff.1 (by omega)))).symm
  · exact (numR_no (.inr (.inl (by omega)))).symm
  · refine (numR_no (.inr (.inr (.inl ⟨by omega, ?_⟩)))).symm
    rw [show x = 48 from UInt8.toNat_inj.1 (by simp; omega)] at hx
    exact hx
  all_goals
    have hns : ¬ (1 < s.length ∧ s[0]? = some 48) := by
      intro ⟨h1, h2⟩
      first
      | omega
      | (have hx' : s[0]? = some x := hx
         rw [h2] at hx'
         obtain rfl := Option.some.inj hx'
         exact h rfl)
    refine loop_rule ti_ok (fun k : Nat => k ≤ s.length ∧ (s.take k).all isDig = true) (fun k => ⟨[(0, .d (.st s)), (4, .d (.it .i64 (val (s.take k)))), (5, .d (.it .i64 k))], [], 0⟩) (fun k => s.length - k) 0 ⟨Nat.zero_le _, rfl⟩ ⟨⟨rfl, rfl, rfl, trivial⟩, trivial, rfl⟩ ?_
    intro k ⟨hk, ha⟩
    have hb := val_bd k s ha
    have hp : (10 : Int) ^ k ≤ 10000000000000 := pow13 (by omega)
    (repeat' ((conv => whnf); first | with_reducible refine Spl.tt ?_ | with_reducible refine Spl.ff ?_ | with_reducible refine LetI.i64 (by first | omega | (simp only [List.length_cons, List.length_nil]; omega)) ?_ | with_reducible refine LetI.u64 (by omega) ?_ | with_reducible refine LetI.u8 (by omega) ?_ | with_reducible refine LetI.i64q (by omega) ?_ | with_reducible refine LetI.u64q (by omega) ?_ | with_reducible refine LetI.rem (by omega) ?_ | with_reducible refine LetN.mk ?_ | with_reducible refine at_hm (by assumption) ?_ | with_reducible refine at_hb (by assumption) ?_ | with_reducible refine at_natm8 (by omega) (fun x hx hu => ?_) | with_reducible refine at_nat8 (by omega) (fun x hx hu => ?_) | with_reducible refine at_bi8 (by omega) (fun x hx hu => ?_) | with_reducible refine at_natm (by omega) (fun x hx => ?_) | with_reducible refine at_intm (by omega) (fun x hx => ?_) | with_reducible refine at_nat (by omega) (fun x hx => ?_) | with_reducible refine at_bi (by omega) (fun x hx => ?_) | with_reducible refine And.intro (by first | omega | (dsimp only; omega) | (simp only [List.length_cons, List.length_nil]; omega)) ?_ | with_reducible refine cond_tt (by first | rfl | exact ble_tt (by omega) | exact band_tt rfl (ble_tt (by omega))) ?_ | with_reducible refine Spl.yes (by (first | with_unfolding_all exact rfl | with_reducible assumption | exact dtt (by omega) | exact ett (by omega) | exact ntt (by omega))) ?_ | with_reducible refine Spl.no (by (first | with_unfolding_all exact rfl | with_reducible assumption | exact dff (by omega) | exact eff (by omega) | exact nff (by omega))) ?_ | with_reducible refine Spl.pd (fun h => ?_) (fun h => ?_) | with_reducible refine Spl.peq (fun h => ?_) (fun h => ?_) | with_reducible refine Spl.pne (fun h => ?_) (fun h => ?_) | with_reducible refine Spl.seq (fun h => ?_) (fun h => ?_) | with_reducible refine Spl.sne (fun h => ?_) (fun h => ?_) | with_reducible refine Spl.nt ?_ | with_reducible refine Spl.mk (fun h => ?_) (fun h => ?_)))
    · exact (numR_no (.inr (.inr (.inr (.inl (not_all hx (isDig_f (.inl h)))))))).symm
    · exact (numR_no (.inr (.inr (.inr (.inl (not_all hx (isDig_f (.inr h)))))))).symm
    · refine again (k + 1) ⟨by omega, by rw [all_snoc hx, ha, isDig_t (by assumption) (by assumption)]; rfl⟩ (by dsimp only; omega) (And.intro rfl (And.intro (it_eq ?_) (And.intro rfl trivial))) trivial rfl
      rw [val_snoc hx]; try omega
    all_goals
      obtain rfl : k = s.length := by omega
      rw [List.take_length] at *
    · exact (numR_no (.inr (.inr (.inr (.inr (by assumption)))))).symm
    · refine (numR_yes ?_).symm
      rintro (hc | hc | hc | hc | hc)
      · subst hc; simp at *
      · omega
      · exact hns hc
      · rw [ha] at hc; cases hc
      · omega
theorem numRead_ok (s : List UInt8) : FnC Tryd.prog 36 [.d (.st s)] (tup2 (numR s)) := by
  refine FnC.intro ti_ok Tryd.func36 rfl Tryd.ntmps36 Tryd.call36 rfl (Nat.le_of_ble_eq_true rfl) rfl ?_
  by_cases h0 : s = []
  · subst h0
    (repeat' ((conv => whnf); first | with_reducible refine Spl.tt ?_ | with_reducible refine Spl.ff ?_ | with_reducible refine LetI.i64 (by first | omega | (simp only [List.length_cons, List.length_nil]; omega)) ?_ | with_reducible refine LetI.u64 (by omega) ?_ | with_reducible refine LetI.u8 (by omega) ?_ | with_reducible refine LetI.i64q (by omega) ?_ | with_reducible refine LetI.u64q (by omega) ?_ | with_reducible refine LetI.rem (by omega) ?_ | with_reducible refine LetN.mk ?_ | with_reducible refine at_hm (by assumption) ?_ | with_reducible refine at_hb (by assumption) ?_ | with_reducible refine at_natm8 (by omega) (fun x hx hu => ?_) | with_reducible refine at_nat8 (by omega) (fun x hx hu => ?_) | with_reducible refine at_bi8 (by omega) (fun x hx hu => ?_) | with_reducible refine at_natm (by omega) (fun x hx => ?_) | with_reducible refine at_intm (by omega) (fun x hx => ?_) | with_reducible refine at_nat (by omega) (fun x hx => ?_) | with_reducible refine at_bi (by omega) (fun x hx => ?_) | with_reducible refine And.intro (by first | omega | (dsimp only; omega) | (simp only [List.length_cons, List.length_nil]; omega)) ?_ | with_reducible refine cond_tt (by first | rfl | exact ble_tt (by omega) | exact band_tt rfl (ble_tt (by omega))) ?_ | with_reducible refine Spl.yes (by (first | with_unfolding_all exact rfl | with_reducible assumption | exact dtt (by omega) | exact ett (by omega) | exact ntt (by omega))) ?_ | with_reducible refine Spl.no (by (first | with_unfolding_all exact rfl | with_reducible assumption | exact dff (by omega) | exact eff (by omega) | exact nff (by omega))) ?_ | with_reducible refine Spl.pd (fun h => ?_) (fun h => ?_) | with_reducible refine Spl.peq (fun h => ?_) (fun h => ?_) | with_reducible refine Spl.pne (fun h => ?_) (fun h => ?_) | with_reducible refine Spl.seq (fun h => ?_) (fun h => ?_) | with_reducible refine Spl.sne (fun h => ?_) (fun h => ?_) | with_reducible refine Spl.nt ?_ | with_reducible refine Spl.mk (fun h => ?_) (fun h => ?_)))
    exact (numR_no (.inl rfl)).symm
  have hlen : 0 < s.length := List.length_pos_iff.2 h0
  (repeat' ((conv => whnf); first | with_reducible refine Spl.tt ?_ | with_reducible refine Spl.ff ?_ | with_reducible refine LetI.i64 (by first | omega | (simp only [List.length_cons, List.length_nil]; omega)) ?_ | with_reducible refine LetI.u64 (by omega) ?_ | with_reducible refine LetI.u8 (by omega) ?_ | with_reducible refine LetI.i64q (by omega) ?_ | with_reducible refine LetI.u64q (by omega) ?_ | with_reducible refine LetI.rem (by omega) ?_ | with_reducible refine LetN.mk ?_ | with_reducible refine at_hm (by assumption) ?_ | with_reducible refine at_hb (by assumption) ?_ | with_reducible refine at_natm8 (by omega) (fun x hx hu => ?_) | with_reducible refine at_nat8 (by omega) (fun x hx hu => ?_) | with_reducible refine at_bi8 (by omega) (fun x hx hu => ?_) | with_reducible refine at_natm (by omega) (fun x hx => ?_) | with_reducible refine at_intm (by omega) (fun x hx => ?_) | with_reducible refine at_nat (by omega) (fun x hx => ?_) | with_reducible refine at_bi (by omega) (fun x hx => ?_) | with_reducible refine And.intro (by first | omega | (dsimp only; omega) | (simp only [List.length_cons, List.length_nil]; omega)) ?_ | with_reducible refine cond_tt (by first | rfl | exact ble_tt (by omega) | exact band_tt rfl (ble_tt (by omega))) ?_ | with_reducible refine Spl.yes (by (first | with_unfolding_all exact rfl | with_reducible assumption | exact dtt (by omega) | exact ett (by omega) | exact ntt (by omega))) ?_ | with_reducible refine Spl.no (by (first | with_unfolding_all exact rfl | with_reducible assumption | exact dff (by omega) | exact eff (by omega) | exact nff (by omega))) ?_ | with_reducible refine Spl.pd (fun h => ?_) (fun h => ?_) | with_reducible refine Spl.peq (fun h => ?_) (fun h => ?_) | with_reducible refine Spl.pne (fun h => ?_) (fun h => ?_) | with_reducible refine Spl.seq (fun h => ?_) (fun h => ?_) | with_reducible refine Spl.sne (fun h => ?_) (fun h => ?_) | with_reducible refine Spl.nt ?_ | with_reducible refine Spl.mk (fun h => ?_) (fun h => ?_)))
  · exact absurd h h0
  · exact (numR_no (.inr (.inl (by omega)))).symm
  · rename_i h1
    have h48 : x = 48 := UInt8.toNat_inj.1 (by simp; omega)
    subst h48
    have hx' : s[0]? = some 48 := hx
    refine (numR_no (.inr (.inr (.inl ⟨?_, hx'⟩)))).symm
    rcases Nat.lt_or_ge 1 s.length with h2 | h2
    · exact h2
    · exfalso
      obtain ⟨c, hc⟩ : ∃ c, s = [c] := List.length_eq_one_iff.1 (by omega)
      subst hc
      simp only [List.getElem?_cons_zero, Option.some.injEq] at hx'
      subst hx'
      exact h rfl
  all_goals
    have hns : ¬ (1 < s.length ∧ s[0]? = some 48) := by
      intro ⟨h1, h2⟩
      have hx' : s[0]? = some x := hx
      rw [h2] at hx'
      obtain rfl := Option.some.inj hx'
      first
      | exact h rfl
      | (have e : s = [48] := (by assumption); rw [e] at h1; simp at h1)
    refine loop_rule ti_ok (fun k : Nat => k ≤ s.length ∧ (s.take k).all isDig = true) (fun k => ⟨[(0, .d (.st s)), (4, .d (.it .i64 (val (s.take k)))), (25, .d (.fs 1 (bytesD s))), (26, .d (.it .i64 s.length)), (27, .d (.it .i64 k))], [], 0⟩) (fun k => s.length - k) 0 ⟨Nat.zero_le _, rfl⟩ ⟨⟨rfl, rfl, rfl, it_eq (by simp [bytesD]), rfl, trivial⟩, trivial, rfl⟩ ?_
    intro k ⟨hk, ha⟩
    have hb := val_bd k s ha
    have hp : (10 : Int) ^ k ≤ 10000000000000 := pow13 (by omega)
    (repeat' ((conv => whnf); first | with_reducible refine Spl.tt ?_ | with_reducible refine Spl.ff ?_ | with_reducible refine LetI.i64 (by first | omega | (simp only [List.length_cons, List.length_nil]; omega)) ?_ | with_reducible refine LetI.u64 (by omega) ?_ | with_reducible refine LetI.u8 (by omega) ?_ | with_reducible refine LetI.i64q (by omega) ?_ | with_reducible refine LetI.u64q (by omega) ?_ | with_reducible refine LetI.rem (by omega) ?_ | with_reducible refine LetN.mk ?_ | with_reducible refine at_hm (by assumption) ?_ | with_reducible refine at_hb (by assumption) ?_ | with_reducible refine at_natm8 (by omega) (fun x hx hu => ?_) | with_reducible refine at_nat8 (by omega) (fun x hx hu => ?_) | with_reducible refine at_bi8 (by omega) (fun x hx hu => ?_) | with_reducible refine at_natm (by omega) (fun x hx => ?_) | with_reducible refine at_intm (by omega) (fun x hx => ?_) | with_reducible refine at_nat (by omega) (fun x hx => ?_) | with_reducible refine at_bi (by omega) (fun x hx => ?_) | with_reducible refine And.intro (by first | omega | (dsimp only; omega) | (simp only [List.length_cons, List.length_nil]; omega)) ?_ | with_reducible refine cond_tt (by first | rfl | exact ble_tt (by omega) | exact band_tt rfl (ble_tt (by omega))) ?_ | with_reducible refine Spl.yes (by (first | with_unfolding_all exact rfl | with_reducible assumption | exact dtt (by omega) | exact ett (by omega) | exact ntt (by omega))) ?_ | with_reducible refine Spl.no (by (first | with_unfolding_all exact rfl | with_reducible assumption | exact dff (by omega) | exact eff (by omega) | exact nff (by omega))) ?_ | with_reducible refine Spl.pd (fun h => ?_) (fun h => ?_) | with_reducible refine Spl.peq (fun h => ?_) (fun h => ?_) | with_reducible refine Spl.pne (fun h => ?_) (fun h => ?_) | with_reducible refine Spl.seq (fun h => ?_) (fun h => ?_) | with_reducible refine Spl.sne (fun h => ?_) (fun h => ?_) | with_reducible refine Spl.nt ?_ | with_reducible refine Spl.mk (fun h => ?_) (fun h => ?_)))
    · exact (numR_no (.inr (.inr (.inr (.inl (not_all hx (isDig_f (.inl (by omega))))))))).symm
    · exact (numR_no (.inr (.inr (.inr (.inl (not_all hx (isDig_f (.inr (by omega))))))))).symm
    · refine again (k + 1) ⟨by omega, by rw [all_snoc hx, ha, isDig_t (by omega) (by omega)]; rfl⟩ (by dsimp only; omega) (And.intro rfl (And.intro (it_eq ?_) (And.intro rfl (And.intro rfl (And.intro rfl trivial))))) trivial rfl
      rw [val_snoc hx]; try omega
    all_goals
      obtain rfl : k = s.length := by omega
      rw [List.take_length] at *
    · exact (numR_no (.inr (.inr (.inr (.inr (by assumption)))))).symm
    · refine (numR_yes ?_).symm
      rintro (hc | hc | hc | hc | hc)
      · subst hc; simp at *
      · omega
      · exact hns hc
      · rw [ha] at hc; cases hc
      · omega
end Go.Proofs.YtgldagkdfhabbaaDoor
