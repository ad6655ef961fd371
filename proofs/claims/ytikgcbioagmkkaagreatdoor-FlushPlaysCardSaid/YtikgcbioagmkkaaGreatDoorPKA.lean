/- Contracts of the functions that the law reaches, and the law. Conditions: none. -/
import Derived.Test.YtikgcbioagmkkaaGreatDoorProg
import Derived.Test.YtikgcbioagmkkaaGreatDoorPSD
import Derived.KernelRfl
import Derived.Test.YtikgcbioagmkkaaGreatDoorPSE
import Derived.Laws.Externs
import Derived.Shelf.Strings.Builder1
import Derived.Shelf.Strings.Builder2
import Derived.Shelf.Strings.OnBuilder
import Derived.Shelf.Small.Utf8
import Derived.Shelf.Small.Bits
import Derived.Shelf.Small.Strs
import Derived.Shelf.Small.Wraps
import Derived.Shelf.Strconv.Itoa0
import Derived.Shelf.Strings.Search1
import Derived.Shelf.Strings.Search2
import Derived.Shelf.Strings.Search3
import Derived.Shelf.Strings.Count
import Derived.Shelf.LaysM
import Derived.Shelf.Strings.Shaped
import Derived.Shelf.Sort.Plain
import Derived.Shelf.Strings.Prefix
import Derived.Shelf.Strings.Runes
import Derived.Shelf.Strings.AsciiSet
import Derived.Shelf.Unicode.DecodeSlow
import Derived.Shelf.Slices.Turned
import Derived.Ground.Names2Prog
import Derived.Shelf.Slices.Clone
import Derived.Shelf.Slices.CompactI
import Derived.Shelf.Slices.CompactS
import Derived.Shelf.Slices.SearchI
import Derived.Shelf.Slices.Cells
import Derived.Shelf.Slices.In.SortNone
import Derived.Ground.SlbCloneProg
import Derived.Shelf.Bytes.SlClone
import Derived.Test.YtikgcbioagmkkaaGreatDoorPSC
set_option maxRecDepth 100000
set_option linter.all false
set_option maxHeartbeats 16000000
namespace Go.Proofs.YtikgcbioagmkkaaGreatDoor
open Go.Sy
def tyL:List (Nat×Ty):=[
 (0,{kd:= .other,size:=1,bytes:=0,zero:=[],cmp:= .none,pl:=[]}),
 (1,{kd:= .func,size:=1,bytes:=8,zero:=[.ot .nilFunc],cmp:= .none,pl:=[]}),
 (2,{kd:= .int .i64,size:=1,bytes:=8,zero:=[.it .i64 0],cmp:= .some [.it .i64 0],pl:=[]}),
 (3,{kd:= .int .i64,size:=1,bytes:=8,zero:=[.it .i64 0],cmp:= .some [.it .i64 0],pl:=[]}),
 (4,{kd:= .bool,size:=1,bytes:=1,zero:=[.bl Bool.false],cmp:= .some [.bl Bool.false],pl:=[]}),
 (5,{kd:= .int .u8,size:=1,bytes:=1,zero:=[.it .u8 0],cmp:= .some [.it .u8 0],pl:=[]}),
 (6,{kd:= .int .u8,size:=1,bytes:=1,zero:=[.it .u8 0],cmp:= .some [.it .u8 0],pl:=[]}),
 (7,{kd:= .struct [(0,2),(1,3),(2,4),(3,6)],size:=4,bytes:=24,zero:=[.it .i64 0,.it .i64 0,.bl Bool.false,.it .u8 0],cmp:= .some [.it .i64 0,.it .i64 0,.bl Bool.false,.it .u8 0],pl:=[(0,1),(1,1),(2,1),(3,1)]}),
 (8,{kd:= .struct [(0,2),(1,3),(2,4),(3,6)],size:=4,bytes:=24,zero:=[.it .i64 0,.it .i64 0,.bl Bool.false,.it .u8 0],cmp:= .some [.it .i64 0,.it .i64 0,.bl Bool.false,.it .u8 0],pl:=[(0,1),(1,1),(2,1),(3,1)]}),
 (9,{kd:= .string,size:=1,bytes:=16,zero:=[.st []],cmp:= .some [.st []],pl:=[]}),
 (10,{kd:= .string,size:=1,bytes:=16,zero:=[.st []],cmp:= .some [.st []],pl:=[]}),
 (11,{kd:= .string,size:=1,bytes:=16,zero:=[.st []],cmp:= .some [.st []],pl:=[]}),
 (12,{kd:= .int .u64,size:=1,bytes:=8,zero:=[.it .u64 0],cmp:= .some [.it .u64 0],pl:=[]}),
 (13,{kd:= .struct [(0,9),(1,12)],size:=2,bytes:=24,zero:=[.st [],.it .u64 0],cmp:= .none,pl:=[(0,1),(1,1)]}),
 (14,{kd:= .struct [(0,9),(1,12)],size:=2,bytes:=24,zero:=[.st [],.it .u64 0],cmp:= .none,pl:=[(0,1),(1,1)]}),
 (15,{kd:= .ptr 346,size:=1,bytes:=8,zero:=[.ot (.pointer .none)],cmp:= .none,pl:=[]}),
 (16,{kd:= .ptr 349,size:=1,bytes:=8,zero:=[.ot (.pointer .none)],cmp:= .none,pl:=[]}),
 (17,{kd:= .ptr 356,size:=1,bytes:=8,zero:=[.ot (.pointer .none)],cmp:= .none,pl:=[]}),
 (18,{kd:= .struct [(0,17)],size:=1,bytes:=8,zero:=[.ot (.pointer .none)],cmp:= .none,pl:=[(0,1)]}),
 (19,{kd:= .struct [(0,17)],size:=1,bytes:=8,zero:=[.ot (.pointer .none)],cmp:= .none,pl:=[(0,1)]}),
 (20,{kd:= .other,size:=1,bytes:=16,zero:=[.ot .nilIface],cmp:= .none,pl:=[]}),
 (21,{kd:= .int .i32,size:=1,bytes:=4,zero:=[.it .i32 0],cmp:= .some [.it .i32 0],pl:=[]}),
 (22,{kd:= .slice 37,size:=1,bytes:=24,zero:=[.fs 32 []],cmp:= .none,pl:=[]}),
 (23,{kd:= .slice 33,size:=1,bytes:=24,zero:=[.fs 6 []],cmp:= .none,pl:=[]}),
 (24,{kd:= .func,size:=1,bytes:=8,zero:=[.ot .nilFunc],cmp:= .none,pl:=[]}),
 (25,{kd:= .func,size:=1,bytes:=8,zero:=[.ot .nilFunc],cmp:= .none,pl:=[]}),
 (26,{kd:= .ptr 61,size:=1,bytes:=8,zero:=[.ot (.pointer .none)],cmp:= .none,pl:=[]}),
 (27,{kd:= .func,size:=1,bytes:=8,zero:=[.ot .nilFunc],cmp:= .none,pl:=[]}),
 (28,{kd:= .int .i64,size:=1,bytes:=8,zero:=[.it .i64 0],cmp:= .some [.it .i64 0],pl:=[]}),
 (29,{kd:= .func,size:=1,bytes:=8,zero:=[.ot .nilFunc],cmp:= .none,pl:=[]}),
 (30,{kd:= .slice 5,size:=1,bytes:=24,zero:=[.fs 1 []],cmp:= .none,pl:=[]}),
 (31,{kd:= .slice 3,size:=1,bytes:=24,zero:=[.fs 1 []],cmp:= .none,pl:=[]}),
 (32,{kd:= .struct [(0,3),(1,9),(2,9),(3,3),(4,30),(5,31)],size:=6,bytes:=96,zero:=[.it .i64 0,.st [],.st [],.it .i64 0,.fs 1 [],.fs 1 []],cmp:= .none,pl:=[(0,1),(1,1),(2,1),(3,1),(4,1),(5,1)]}),
 (33,{kd:= .struct [(0,3),(1,9),(2,9),(3,3),(4,30),(5,31)],size:=6,bytes:=96,zero:=[.it .i64 0,.st [],.st [],.it .i64 0,.fs 1 [],.fs 1 []],cmp:= .none,pl:=[(0,1),(1,1),(2,1),(3,1),(4,1),(5,1)]}),
 (34,{kd:= .ptr 93,size:=1,bytes:=8,zero:=[.ot (.pointer .none)],cmp:= .none,pl:=[]}),
 (37,{kd:= .arr 32 5,size:=32,bytes:=32,zero:=[.it .u8 0,.it .u8 0,.it .u8 0,.it .u8 0,.it .u8 0,.it .u8 0,.it .u8 0,.it .u8 0,.it .u8 0,.it .u8 0,.it .u8 0,.it .u8 0,.it .u8 0,.it .u8 0,.it .u8 0,.it .u8 0,.it .u8 0,.it .u8 0,.it .u8 0,.it .u8 0,.it .u8 0,.it .u8 0,.it .u8 0,.it .u8 0,.it .u8 0,.it .u8 0,.it .u8 0,.it .u8 0,.it .u8 0,.it .u8 0,.it .u8 0,.it .u8 0],cmp:= .some [.it .u8 0,.it .u8 0,.it .u8 0,.it .u8 0,.it .u8 0,.it .u8 0,.it .u8 0,.it .u8 0,.it .u8 0,.it .u8 0,.it .u8 0,.it .u8 0,.it .u8 0,.it .u8 0,.it .u8 0,.it .u8 0,.it .u8 0,.it .u8 0,.it .u8 0,.it .u8 0,.it .u8 0,.it .u8 0,.it .u8 0,.it .u8 0,.it .u8 0,.it .u8 0,.it .u8 0,.it .u8 0,.it .u8 0,.it .u8 0,.it .u8 0,.it .u8 0],pl:=[]}),
 (39,{kd:= .other,size:=1,bytes:=0,zero:=[],cmp:= .none,pl:=[]}),
 (41,{kd:= .other,size:=1,bytes:=0,zero:=[],cmp:= .none,pl:=[]}),
 (44,{kd:= .slice 49,size:=1,bytes:=24,zero:=[.fs 36 []],cmp:= .none,pl:=[]}),
 (47,{kd:= .struct [(0,3),(1,3)],size:=2,bytes:=16,zero:=[.it .i64 0,.it .i64 0],cmp:= .some [.it .i64 0,.it .i64 0],pl:=[(0,1),(1,1)]}),
 (49,{kd:= .struct [(0,3),(1,37),(33,47),(35,3)],size:=36,bytes:=64,zero:=[.it .i64 0,.it .u8 0,.it .u8 0,.it .u8 0,.it .u8 0,.it .u8 0,.it .u8 0,.it .u8 0,.it .u8 0,.it .u8 0,.it .u8 0,.it .u8 0,.it .u8 0,.it .u8 0,.it .u8 0,.it .u8 0,.it .u8 0,.it .u8 0,.it .u8 0,.it .u8 0,.it .u8 0,.it .u8 0,.it .u8 0,.it .u8 0,.it .u8 0,.it .u8 0,.it .u8 0,.it .u8 0,.it .u8 0,.it .u8 0,.it .u8 0,.it .u8 0,.it .u8 0,.it .i64 0,.it .i64 0,.it .i64 0],cmp:= .some [.it .i64 0,.it .u8 0,.it .u8 0,.it .u8 0,.it .u8 0,.it .u8 0,.it .u8 0,.it .u8 0,.it .u8 0,.it .u8 0,.it .u8 0,.it .u8 0,.it .u8 0,.it .u8 0,.it .u8 0,.it .u8 0,.it .u8 0,.it .u8 0,.it .u8 0,.it .u8 0,.it .u8 0,.it .u8 0,.it .u8 0,.it .u8 0,.it .u8 0,.it .u8 0,.it .u8 0,.it .u8 0,.it .u8 0,.it .u8 0,.it .u8 0,.it .u8 0,.it .u8 0,.it .i64 0,.it .i64 0,.it .i64 0],pl:=[(0,1),(1,32),(33,2),(35,1)]}),
 (52,{kd:= .other,size:=1,bytes:=0,zero:=[],cmp:= .none,pl:=[]}),
 (54,{kd:= .ptr 69,size:=1,bytes:=8,zero:=[.ot (.pointer .none)],cmp:= .none,pl:=[]}),
 (55,{kd:= .other,size:=1,bytes:=0,zero:=[],cmp:= .none,pl:=[]}),
 (57,{kd:= .other,size:=1,bytes:=0,zero:=[],cmp:= .none,pl:=[]}),
 (61,{kd:= .struct [(0,34)],size:=1,bytes:=8,zero:=[.ot (.pointer .none)],cmp:= .none,pl:=[(0,1)]}),
 (64,{kd:= .func,size:=1,bytes:=8,zero:=[.ot .nilFunc],cmp:= .none,pl:=[]}),
 (66,{kd:= .slice 110,size:=1,bytes:=24,zero:=[.fs 38 []],cmp:= .none,pl:=[]}),
 (69,{kd:= .struct [(0,22),(1,44),(2,3),(3,66),(4,31),(5,3)],size:=6,bytes:=112,zero:=[.fs 32 [],.fs 36 [],.it .i64 0,.fs 38 [],.fs 1 [],.it .i64 0],cmp:= .none,pl:=[(0,1),(1,1),(2,1),(3,1),(4,1),(5,1)]}),
 (85,{kd:= .func,size:=1,bytes:=8,zero:=[.ot .nilFunc],cmp:= .none,pl:=[]}),
 (86,{kd:= .func,size:=1,bytes:=8,zero:=[.ot .nilFunc],cmp:= .none,pl:=[]}),
 (87,{kd:= .func,size:=1,bytes:=8,zero:=[.ot .nilFunc],cmp:= .none,pl:=[]}),
 (89,{kd:= .map 3 3,size:=1,bytes:=8,zero:=[.ot (.map .none)],cmp:= .none,pl:=[]}),
 (91,{kd:= .struct [(0,89),(1,3)],size:=2,bytes:=16,zero:=[.ot (.map .none),.it .i64 0],cmp:= .none,pl:=[(0,1),(1,1)]}),
 (93,{kd:= .struct [(0,91),(2,22),(3,44),(4,66),(5,3)],size:=6,bytes:=96,zero:=[.ot (.map .none),.it .i64 0,.fs 32 [],.fs 36 [],.fs 38 [],.it .i64 0],cmp:= .none,pl:=[(0,2),(2,1),(3,1),(4,1),(5,1)]}),
 (94,{kd:= .slice 9,size:=1,bytes:=24,zero:=[.fs 1 []],cmp:= .none,pl:=[]}),
 (95,{kd:= .other,size:=1,bytes:=0,zero:=[],cmp:= .none,pl:=[]}),
 (98,{kd:= .func,size:=1,bytes:=8,zero:=[.ot .nilFunc],cmp:= .none,pl:=[]}),
 (108,{kd:= .slice 47,size:=1,bytes:=24,zero:=[.fs 2 []],cmp:= .none,pl:=[]}),
 (110,{kd:= .struct [(0,3),(1,49),(37,108)],size:=38,bytes:=96,zero:=[.it .i64 0,.it .i64 0,.it .u8 0,.it .u8 0,.it .u8 0,.it .u8 0,.it .u8 0,.it .u8 0,.it .u8 0,.it .u8 0,.it .u8 0,.it .u8 0,.it .u8 0,.it .u8 0,.it .u8 0,.it .u8 0,.it .u8 0,.it .u8 0,.it .u8 0,.it .u8 0,.it .u8 0,.it .u8 0,.it .u8 0,.it .u8 0,.it .u8 0,.it .u8 0,.it .u8 0,.it .u8 0,.it .u8 0,.it .u8 0,.it .u8 0,.it .u8 0,.it .u8 0,.it .u8 0,.it .i64 0,.it .i64 0,.it .i64 0,.fs 2 []],cmp:= .none,pl:=[(0,1),(1,36),(37,1)]}),
 (115,{kd:= .other,size:=1,bytes:=0,zero:=[],cmp:= .none,pl:=[]}),
 (118,{kd:= .func,size:=1,bytes:=8,zero:=[.ot .nilFunc],cmp:= .none,pl:=[]}),
 (121,{kd:= .struct [(0,3),(1,9),(2,3),(3,4)],size:=4,bytes:=40,zero:=[.it .i64 0,.st [],.it .i64 0,.bl Bool.false],cmp:= .some [.it .i64 0,.st [],.it .i64 0,.bl Bool.false],pl:=[(0,1),(1,1),(2,1),(3,1)]}),
 (122,{kd:= .other,size:=1,bytes:=0,zero:=[],cmp:= .none,pl:=[]}),
 (124,{kd:= .other,size:=1,bytes:=0,zero:=[],cmp:= .none,pl:=[]}),
 (127,{kd:= .arr 4 3,size:=4,bytes:=32,zero:=[.it .i64 0,.it .i64 0,.it .i64 0,.it .i64 0],cmp:= .some [.it .i64 0,.it .i64 0,.it .i64 0,.it .i64 0],pl:=[]}),
 (129,{kd:= .struct [(0,3),(1,3),(2,127)],size:=6,bytes:=48,zero:=[.it .i64 0,.it .i64 0,.it .i64 0,.it .i64 0,.it .i64 0,.it .i64 0],cmp:= .some [.it .i64 0,.it .i64 0,.it .i64 0,.it .i64 0,.it .i64 0,.it .i64 0],pl:=[(0,1),(1,1),(2,4)]}),
 (133,{kd:= .struct [(0,4),(1,3),(2,9),(3,3)],size:=4,bytes:=40,zero:=[.bl Bool.false,.it .i64 0,.st [],.it .i64 0],cmp:= .some [.bl Bool.false,.it .i64 0,.st [],.it .i64 0],pl:=[(0,1),(1,1),(2,1),(3,1)]}),
 (134,{kd:= .other,size:=1,bytes:=0,zero:=[],cmp:= .none,pl:=[]}),
 (137,{kd:= .other,size:=1,bytes:=0,zero:=[],cmp:= .none,pl:=[]}),
 (139,{kd:= .other,size:=1,bytes:=0,zero:=[],cmp:= .none,pl:=[]}),
 (153,{kd:= .struct [(0,3),(1,3)],size:=2,bytes:=16,zero:=[.it .i64 0,.it .i64 0],cmp:= .some [.it .i64 0,.it .i64 0],pl:=[(0,1),(1,1)]}),
 (158,{kd:= .ptr 209,size:=1,bytes:=8,zero:=[.ot (.pointer .none)],cmp:= .none,pl:=[]}),
 (164,{kd:= .func,size:=1,bytes:=8,zero:=[.ot .nilFunc],cmp:= .none,pl:=[]}),
 (165,{kd:= .other,size:=1,bytes:=0,zero:=[],cmp:= .none,pl:=[]}),
 (177,{kd:= .other,size:=1,bytes:=0,zero:=[],cmp:= .none,pl:=[]}),
 (181,{kd:= .struct [(0,3),(1,9),(2,3)],size:=3,bytes:=32,zero:=[.it .i64 0,.st [],.it .i64 0],cmp:= .some [.it .i64 0,.st [],.it .i64 0],pl:=[(0,1),(1,1),(2,1)]}),
 (182,{kd:= .other,size:=1,bytes:=0,zero:=[],cmp:= .none,pl:=[]}),
 (186,{kd:= .slice 243,size:=1,bytes:=24,zero:=[.fs 37 []],cmp:= .none,pl:=[]}),
 (189,{kd:= .other,size:=1,bytes:=0,zero:=[],cmp:= .none,pl:=[]}),
 (192,{kd:= .other,size:=1,bytes:=0,zero:=[],cmp:= .none,pl:=[]}),
 (196,{kd:= .arr 25 4,size:=25,bytes:=25,zero:=[.bl Bool.false,.bl Bool.false,.bl Bool.false,.bl Bool.false,.bl Bool.false,.bl Bool.false,.bl Bool.false,.bl Bool.false,.bl Bool.false,.bl Bool.false,.bl Bool.false,.bl Bool.false,.bl Bool.false,.bl Bool.false,.bl Bool.false,.bl Bool.false,.bl Bool.false,.bl Bool.false,.bl Bool.false,.bl Bool.false,.bl Bool.false,.bl Bool.false,.bl Bool.false,.bl Bool.false,.bl Bool.false],cmp:= .some [.bl Bool.false,.bl Bool.false,.bl Bool.false,.bl Bool.false,.bl Bool.false,.bl Bool.false,.bl Bool.false,.bl Bool.false,.bl Bool.false,.bl Bool.false,.bl Bool.false,.bl Bool.false,.bl Bool.false,.bl Bool.false,.bl Bool.false,.bl Bool.false,.bl Bool.false,.bl Bool.false,.bl Bool.false,.bl Bool.false,.bl Bool.false,.bl Bool.false,.bl Bool.false,.bl Bool.false,.bl Bool.false],pl:=[]}),
 (199,{kd:= .other,size:=1,bytes:=0,zero:=[],cmp:= .none,pl:=[]}),
 (205,{kd:= .arr 16 129,size:=96,bytes:=768,zero:=[.it .i64 0,.it .i64 0,.it .i64 0,.it .i64 0,.it .i64 0,.it .i64 0,.it .i64 0,.it .i64 0,.it .i64 0,.it .i64 0,.it .i64 0,.it .i64 0,.it .i64 0,.it .i64 0,.it .i64 0,.it .i64 0,.it .i64 0,.it .i64 0,.it .i64 0,.it .i64 0,.it .i64 0,.it .i64 0,.it .i64 0,.it .i64 0,.it .i64 0,.it .i64 0,.it .i64 0,.it .i64 0,.it .i64 0,.it .i64 0,.it .i64 0,.it .i64 0,.it .i64 0,.it .i64 0,.it .i64 0,.it .i64 0,.it .i64 0,.it .i64 0,.it .i64 0,.it .i64 0,.it .i64 0,.it .i64 0,.it .i64 0,.it .i64 0,.it .i64 0,.it .i64 0,.it .i64 0,.it .i64 0,.it .i64 0,.it .i64 0,.it .i64 0,.it .i64 0,.it .i64 0,.it .i64 0,.it .i64 0,.it .i64 0,.it .i64 0,.it .i64 0,.it .i64 0,.it .i64 0,.it .i64 0,.it .i64 0,.it .i64 0,.it .i64 0,.it .i64 0,.it .i64 0,.it .i64 0,.it .i64 0,.it .i64 0,.it .i64 0,.it .i64 0,.it .i64 0,.it .i64 0,.it .i64 0,.it .i64 0,.it .i64 0,.it .i64 0,.it .i64 0,.it .i64 0,.it .i64 0,.it .i64 0,.it .i64 0,.it .i64 0,.it .i64 0,.it .i64 0,.it .i64 0,.it .i64 0,.it .i64 0,.it .i64 0,.it .i64 0,.it .i64 0,.it .i64 0,.it .i64 0,.it .i64 0,.it .i64 0,.it .i64 0],cmp:= .some [.it .i64 0,.it .i64 0,.it .i64 0,.it .i64 0,.it .i64 0,.it .i64 0,.it .i64 0,.it .i64 0,.it .i64 0,.it .i64 0,.it .i64 0,.it .i64 0,.it .i64 0,.it .i64 0,.it .i64 0,.it .i64 0,.it .i64 0,.it .i64 0,.it .i64 0,.it .i64 0,.it .i64 0,.it .i64 0,.it .i64 0,.it .i64 0,.it .i64 0,.it .i64 0,.it .i64 0,.it .i64 0,.it .i64 0,.it .i64 0,.it .i64 0,.it .i64 0,.it .i64 0,.it .i64 0,.it .i64 0,.it .i64 0,.it .i64 0,.it .i64 0,.it .i64 0,.it .i64 0,.it .i64 0,.it .i64 0,.it .i64 0,.it .i64 0,.it .i64 0,.it .i64 0,.it .i64 0,.it .i64 0,.it .i64 0,.it .i64 0,.it .i64 0,.it .i64 0,.it .i64 0,.it .i64 0,.it .i64 0,.it .i64 0,.it .i64 0,.it .i64 0,.it .i64 0,.it .i64 0,.it .i64 0,.it .i64 0,.it .i64 0,.it .i64 0,.it .i64 0,.it .i64 0,.it .i64 0,.it .i64 0,.it .i64 0,.it .i64 0,.it .i64 0,.it .i64 0,.it .i64 0,.it .i64 0,.it .i64 0,.it .i64 0,.it .i64 0,.it .i64 0,.it .i64 0,.it .i64 0,.it .i64 0,.it .i64 0,.it .i64 0,.it .i64 0,.it .i64 0,.it .i64 0,.it .i64 0,.it .i64 0,.it .i64 0,.it .i64 0,.it .i64 0,.it .i64 0,.it .i64 0,.it .i64 0,.it .i64 0,.it .i64 0],pl:=[]}),
 (206,{kd:= .arr 24 133,size:=96,bytes:=960,zero:=[.bl Bool.false,.it .i64 0,.st [],.it .i64 0,.bl Bool.false,.it .i64 0,.st [],.it .i64 0,.bl Bool.false,.it .i64 0,.st [],.it .i64 0,.bl Bool.false,.it .i64 0,.st [],.it .i64 0,.bl Bool.false,.it .i64 0,.st [],.it .i64 0,.bl Bool.false,.it .i64 0,.st [],.it .i64 0,.bl Bool.false,.it .i64 0,.st [],.it .i64 0,.bl Bool.false,.it .i64 0,.st [],.it .i64 0,.bl Bool.false,.it .i64 0,.st [],.it .i64 0,.bl Bool.false,.it .i64 0,.st [],.it .i64 0,.bl Bool.false,.it .i64 0,.st [],.it .i64 0,.bl Bool.false,.it .i64 0,.st [],.it .i64 0,.bl Bool.false,.it .i64 0,.st [],.it .i64 0,.bl Bool.false,.it .i64 0,.st [],.it .i64 0,.bl Bool.false,.it .i64 0,.st [],.it .i64 0,.bl Bool.false,.it .i64 0,.st [],.it .i64 0,.bl Bool.false,.it .i64 0,.st [],.it .i64 0,.bl Bool.false,.it .i64 0,.st [],.it .i64 0,.bl Bool.false,.it .i64 0,.st [],.it .i64 0,.bl Bool.false,.it .i64 0,.st [],.it .i64 0,.bl Bool.false,.it .i64 0,.st [],.it .i64 0,.bl Bool.false,.it .i64 0,.st [],.it .i64 0,.bl Bool.false,.it .i64 0,.st [],.it .i64 0,.bl Bool.false,.it .i64 0,.st [],.it .i64 0],cmp:= .some [.bl Bool.false,.it .i64 0,.st [],.it .i64 0,.bl Bool.false,.it .i64 0,.st [],.it .i64 0,.bl Bool.false,.it .i64 0,.st [],.it .i64 0,.bl Bool.false,.it .i64 0,.st [],.it .i64 0,.bl Bool.false,.it .i64 0,.st [],.it .i64 0,.bl Bool.false,.it .i64 0,.st [],.it .i64 0,.bl Bool.false,.it .i64 0,.st [],.it .i64 0,.bl Bool.false,.it .i64 0,.st [],.it .i64 0,.bl Bool.false,.it .i64 0,.st [],.it .i64 0,.bl Bool.false,.it .i64 0,.st [],.it .i64 0,.bl Bool.false,.it .i64 0,.st [],.it .i64 0,.bl Bool.false,.it .i64 0,.st [],.it .i64 0,.bl Bool.false,.it .i64 0,.st [],.it .i64 0,.bl Bool.false,.it .i64 0,.st [],.it .i64 0,.bl Bool.false,.it .i64 0,.st [],.it .i64 0,.bl Bool.false,.it .i64 0,.st [],.it .i64 0,.bl Bool.false,.it .i64 0,.st [],.it .i64 0,.bl Bool.false,.it .i64 0,.st [],.it .i64 0,.bl Bool.false,.it .i64 0,.st [],.it .i64 0,.bl Bool.false,.it .i64 0,.st [],.it .i64 0,.bl Bool.false,.it .i64 0,.st [],.it .i64 0,.bl Bool.false,.it .i64 0,.st [],.it .i64 0,.bl Bool.false,.it .i64 0,.st [],.it .i64 0,.bl Bool.false,.it .i64 0,.st [],.it .i64 0],pl:=[]}),
 (207,{kd:= .arr 16 4,size:=16,bytes:=16,zero:=[.bl Bool.false,.bl Bool.false,.bl Bool.false,.bl Bool.false,.bl Bool.false,.bl Bool.false,.bl Bool.false,.bl Bool.false,.bl Bool.false,.bl Bool.false,.bl Bool.false,.bl Bool.false,.bl Bool.false,.bl Bool.false,.bl Bool.false,.bl Bool.false],cmp:= .some [.bl Bool.false,.bl Bool.false,.bl Bool.false,.bl Bool.false,.bl Bool.false,.bl Bool.false,.bl Bool.false,.bl Bool.false,.bl Bool.false,.bl Bool.false,.bl Bool.false,.bl Bool.false,.bl Bool.false,.bl Bool.false,.bl Bool.false,.bl Bool.false],pl:=[]}),
 (209,{kd:= .struct [(0,34),(1,205),(97,206),(193,207)],size:=209,bytes:=1752,zero:=[.ot (.pointer .none),.it .i64 0,.it .i64 0,.it .i64 0,.it .i64 0,.it .i64 0,.it .i64 0,.it .i64 0,.it .i64 0,.it .i64 0,.it .i64 0,.it .i64 0,.it .i64 0,.it .i64 0,.it .i64 0,.it .i64 0,.it .i64 0,.it .i64 0,.it .i64 0,.it .i64 0,.it .i64 0,.it .i64 0,.it .i64 0,.it .i64 0,.it .i64 0,.it .i64 0,.it .i64 0,.it .i64 0,.it .i64 0,.it .i64 0,.it .i64 0,.it .i64 0,.it .i64 0,.it .i64 0,.it .i64 0,.it .i64 0,.it .i64 0,.it .i64 0,.it .i64 0,.it .i64 0,.it .i64 0,.it .i64 0,.it .i64 0,.it .i64 0,.it .i64 0,.it .i64 0,.it .i64 0,.it .i64 0,.it .i64 0,.it .i64 0,.it .i64 0,.it .i64 0,.it .i64 0,.it .i64 0,.it .i64 0,.it .i64 0,.it .i64 0,.it .i64 0,.it .i64 0,.it .i64 0,.it .i64 0,.it .i64 0,.it .i64 0,.it .i64 0,.it .i64 0,.it .i64 0,.it .i64 0,.it .i64 0,.it .i64 0,.it .i64 0,.it .i64 0,.it .i64 0,.it .i64 0,.it .i64 0,.it .i64 0,.it .i64 0,.it .i64 0,.it .i64 0,.it .i64 0,.it .i64 0,.it .i64 0,.it .i64 0,.it .i64 0,.it .i64 0,.it .i64 0,.it .i64 0,.it .i64 0,.it .i64 0,.it .i64 0,.it .i64 0,.it .i64 0,.it .i64 0,.it .i64 0,.it .i64 0,.it .i64 0,.it .i64 0,.it .i64 0,.bl Bool.false,.it .i64 0,.st [],.it .i64 0,.bl Bool.false,.it .i64 0,.st [],.it .i64 0,.bl Bool.false,.it .i64 0,.st [],.it .i64 0,.bl Bool.false,.it .i64 0,.st [],.it .i64 0,.bl Bool.false,.it .i64 0,.st [],.it .i64 0,.bl Bool.false,.it .i64 0,.st [],.it .i64 0,.bl Bool.false,.it .i64 0,.st [],.it .i64 0,.bl Bool.false,.it .i64 0,.st [],.it .i64 0,.bl Bool.false,.it .i64 0,.st [],.it .i64 0,.bl Bool.false,.it .i64 0,.st [],.it .i64 0,.bl Bool.false,.it .i64 0,.st [],.it .i64 0,.bl Bool.false,.it .i64 0,.st [],.it .i64 0,.bl Bool.false,.it .i64 0,.st [],.it .i64 0,.bl Bool.false,.it .i64 0,.st [],.it .i64 0,.bl Bool.false,.it .i64 0,.st [],.it .i64 0,.bl Bool.false,.it .i64 0,.st [],.it .i64 0,.bl Bool.false,.it .i64 0,.st [],.it .i64 0,.bl Bool.false,.it .i64 0,.st [],.it .i64 0,.bl Bool.false,.it .i64 0,.st [],.it .i64 0,.bl Bool.false,.it .i64 0,.st [],.it .i64 0,.bl Bool.false,.it .i64 0,.st [],.it .i64 0,.bl Bool.false,.it .i64 0,.st [],.it .i64 0,.bl Bool.false,.it .i64 0,.st [],.it .i64 0,.bl Bool.false,.it .i64 0,.st [],.it .i64 0,.bl Bool.false,.bl Bool.false,.bl Bool.false,.bl Bool.false,.bl Bool.false,.bl Bool.false,.bl Bool.false,.bl Bool.false,.bl Bool.false,.bl Bool.false,.bl Bool.false,.bl Bool.false,.bl Bool.false,.bl Bool.false,.bl Bool.false,.bl Bool.false],cmp:= .none,pl:=[(0,1),(1,96),(97,96),(193,16)]}),
 (211,{kd:= .func,size:=1,bytes:=8,zero:=[.ot .nilFunc],cmp:= .none,pl:=[]}),
 (220,{kd:= .func,size:=1,bytes:=8,zero:=[.ot .nilFunc],cmp:= .none,pl:=[]}),
 (221,{kd:= .func,size:=1,bytes:=8,zero:=[.ot .nilFunc],cmp:= .none,pl:=[]}),
 (223,{kd:= .map 47 3,size:=1,bytes:=8,zero:=[.ot (.map .none)],cmp:= .none,pl:=[]}),
 (225,{kd:= .ptr 91,size:=1,bytes:=8,zero:=[.ot (.pointer .none)],cmp:= .none,pl:=[]}),
 (226,{kd:= .other,size:=1,bytes:=0,zero:=[],cmp:= .none,pl:=[]}),
 (230,{kd:= .int .i8,size:=1,bytes:=1,zero:=[.it .i8 0],cmp:= .some [.it .i8 0],pl:=[]}),
 (232,{kd:= .struct [(0,30),(1,3),(2,230)],size:=3,bytes:=40,zero:=[.fs 1 [],.it .i64 0,.it .i8 0],cmp:= .none,pl:=[(0,1),(1,1),(2,1)]}),
 (234,{kd:= .other,size:=1,bytes:=16,zero:=[.ot .nilIface],cmp:= .none,pl:=[]}),
 (235,{kd:= .other,size:=1,bytes:=0,zero:=[],cmp:= .none,pl:=[]}),
 (240,{kd:= .ptr 186,size:=1,bytes:=8,zero:=[.ot (.pointer .none)],cmp:= .none,pl:=[]}),
 (243,{kd:= .struct [(0,49),(36,4)],size:=37,bytes:=72,zero:=[.it .i64 0,.it .u8 0,.it .u8 0,.it .u8 0,.it .u8 0,.it .u8 0,.it .u8 0,.it .u8 0,.it .u8 0,.it .u8 0,.it .u8 0,.it .u8 0,.it .u8 0,.it .u8 0,.it .u8 0,.it .u8 0,.it .u8 0,.it .u8 0,.it .u8 0,.it .u8 0,.it .u8 0,.it .u8 0,.it .u8 0,.it .u8 0,.it .u8 0,.it .u8 0,.it .u8 0,.it .u8 0,.it .u8 0,.it .u8 0,.it .u8 0,.it .u8 0,.it .u8 0,.it .i64 0,.it .i64 0,.it .i64 0,.bl Bool.false],cmp:= .some [.it .i64 0,.it .u8 0,.it .u8 0,.it .u8 0,.it .u8 0,.it .u8 0,.it .u8 0,.it .u8 0,.it .u8 0,.it .u8 0,.it .u8 0,.it .u8 0,.it .u8 0,.it .u8 0,.it .u8 0,.it .u8 0,.it .u8 0,.it .u8 0,.it .u8 0,.it .u8 0,.it .u8 0,.it .u8 0,.it .u8 0,.it .u8 0,.it .u8 0,.it .u8 0,.it .u8 0,.it .u8 0,.it .u8 0,.it .u8 0,.it .u8 0,.it .u8 0,.it .u8 0,.it .i64 0,.it .i64 0,.it .i64 0,.bl Bool.false],pl:=[(0,36),(36,1)]}),
 (245,{kd:= .func,size:=1,bytes:=8,zero:=[.ot .nilFunc],cmp:= .none,pl:=[]}),
 (249,{kd:= .func,size:=1,bytes:=8,zero:=[.ot .nilFunc],cmp:= .none,pl:=[]}),
 (260,{kd:= .arr 256 4,size:=256,bytes:=256,zero:=[.bl Bool.false,.bl Bool.false,.bl Bool.false,.bl Bool.false,.bl Bool.false,.bl Bool.false,.bl Bool.false,.bl Bool.false,.bl Bool.false,.bl Bool.false,.bl Bool.false,.bl Bool.false,.bl Bool.false,.bl Bool.false,.bl Bool.false,.bl Bool.false,.bl Bool.false,.bl Bool.false,.bl Bool.false,.bl Bool.false,.bl Bool.false,.bl Bool.false,.bl Bool.false,.bl Bool.false,.bl Bool.false,.bl Bool.false,.bl Bool.false,.bl Bool.false,.bl Bool.false,.bl Bool.false,.bl Bool.false,.bl Bool.false,.bl Bool.false,.bl Bool.false,.bl Bool.false,.bl Bool.false,.bl Bool.false,.bl Bool.false,.bl Bool.false,.bl Bool.false,.bl Bool.false,.bl Bool.false,.bl Bool.false,.bl Bool.false,.bl Bool.false,.bl Bool.false,.bl Bool.false,.bl Bool.false,.bl Bool.false,.bl Bool.false,.bl Bool.false,.bl Bool.false,.bl Bool.false,.bl Bool.false,.bl Bool.false,.bl Bool.false,.bl Bool.false,.bl Bool.false,.bl Bool.false,.bl Bool.false,.bl Bool.false,.bl Bool.false,.bl Bool.false,.bl Bool.false,.bl Bool.false,.bl Bool.false,.bl Bool.false,.bl Bool.false,.bl Bool.false,.bl Bool.false,.bl Bool.false,.bl Bool.false,.bl Bool.false,.bl Bool.false,.bl Bool.false,.bl Bool.false,.bl Bool.false,.bl Bool.false,.bl Bool.false,.bl Bool.false,.bl Bool.false,.bl Bool.false,.bl Bool.false,.bl Bool.false,.bl Bool.false,.bl Bool.false,.bl Bool.false,.bl Bool.false,.bl Bool.false,.bl Bool.false,.bl Bool.false,.bl Bool.false,.bl Bool.false,.bl Bool.false,.bl Bool.false,.bl Bool.false,.bl Bool.false,.bl Bool.false,.bl Bool.false,.bl Bool.false,.bl Bool.false,.bl Bool.false,.bl Bool.false,.bl Bool.false,.bl Bool.false,.bl Bool.false,.bl Bool.false,.bl Bool.false,.bl Bool.false,.bl Bool.false,.bl Bool.false,.bl Bool.false,.bl Bool.false,.bl Bool.false,.bl Bool.false,.bl Bool.false,.bl Bool.false,.bl Bool.false,.bl Bool.false,.bl Bool.false,.bl Bool.false,.bl Bool.false,.bl Bool.false,.bl Bool.false,.bl Bool.false,.bl Bool.false,.bl Bool.false,.bl Bool.false,.bl Bool.false,.bl Bool.false,.bl Bool.false,.bl Bool.false,.bl Bool.false,.bl Bool.false,.bl Bool.false,.bl Bool.false,.bl Bool.false,.bl Bool.false,.bl Bool.false,.bl Bool.false,.bl Bool.false,.bl Bool.false,.bl Bool.false,.bl Bool.false,.bl Bool.false,.bl Bool.false,.bl Bool.false,.bl Bool.false,.bl Bool.false,.bl Bool.false,.bl Bool.false,.bl Bool.false,.bl Bool.false,.bl Bool.false,.bl Bool.false,.bl Bool.false,.bl Bool.false,.bl Bool.false,.bl Bool.false,.bl Bool.false,.bl Bool.false,.bl Bool.false,.bl Bool.false,.bl Bool.false,.bl Bool.false,.bl Bool.false,.bl Bool.false,.bl Bool.false,.bl Bool.false,.bl Bool.false,.bl Bool.false,.bl Bool.false,.bl Bool.false,.bl Bool.false,.bl Bool.false,.bl Bool.false,.bl Bool.false,.bl Bool.false,.bl Bool.false,.bl Bool.false,.bl Bool.false,.bl Bool.false,.bl Bool.false,.bl Bool.false,.bl Bool.false,.bl Bool.false,.bl Bool.false,.bl Bool.false,.bl Bool.false,.bl Bool.false,.bl Bool.false,.bl Bool.false,.bl Bool.false,.bl Bool.false,.bl Bool.false,.bl Bool.false,.bl Bool.false,.bl Bool.false,.bl Bool.false,.bl Bool.false,.bl Bool.false,.bl Bool.false,.bl Bool.false,.bl Bool.false,.bl Bool.false,.bl Bool.false,.bl Bool.false,.bl Bool.false,.bl Bool.false,.bl Bool.false,.bl Bool.false,.bl Bool.false,.bl Bool.false,.bl Bool.false,.bl Bool.false,.bl Bool.false,.bl Bool.false,.bl Bool.false,.bl Bool.false,.bl Bool.false,.bl Bool.false,.bl Bool.false,.bl Bool.false,.bl Bool.false,.bl Bool.false,.bl Bool.false,.bl Bool.false,.bl Bool.false,.bl Bool.false,.bl Bool.false,.bl Bool.false,.bl Bool.false,.bl Bool.false,.bl Bool.false,.bl Bool.false,.bl Bool.false,.bl Bool.false,.bl Bool.false,.bl Bool.false,.bl Bool.false,.bl Bool.false,.bl Bool.false,.bl Bool.false,.bl Bool.false,.bl Bool.false,.bl Bool.false,.bl Bool.false,.bl Bool.false,.bl Bool.false,.bl Bool.false,.bl Bool.false,.bl Bool.false,.bl Bool.false,.bl Bool.false,.bl Bool.false,.bl Bool.false],cmp:= .some [.bl Bool.false,.bl Bool.false,.bl Bool.false,.bl Bool.false,.bl Bool.false,.bl Bool.false,.bl Bool.false,.bl Bool.false,.bl Bool.false,.bl Bool.false,.bl Bool.false,.bl Bool.false,.bl Bool.false,.bl Bool.false,.bl Bool.false,.bl Bool.false,.bl Bool.false,.bl Bool.false,.bl Bool.false,.bl Bool.false,.bl Bool.false,.bl Bool.false,.bl Bool.false,.bl Bool.false,.bl Bool.false,.bl Bool.false,.bl Bool.false,.bl Bool.false,.bl Bool.false,.bl Bool.false,.bl Bool.false,.bl Bool.false,.bl Bool.false,.bl Bool.false,.bl Bool.false,.bl Bool.false,.bl Bool.false,.bl Bool.false,.bl Bool.false,.bl Bool.false,.bl Bool.false,.bl Bool.false,.bl Bool.false,.bl Bool.false,.bl Bool.false,.bl Bool.false,.bl Bool.false,.bl Bool.false,.bl Bool.false,.bl Bool.false,.bl Bool.false,.bl Bool.false,.bl Bool.false,.bl Bool.false,.bl Bool.false,.bl Bool.false,.bl Bool.false,.bl Bool.false,.bl Bool.false,.bl Bool.false,.bl Bool.false,.bl Bool.false,.bl Bool.false,.bl Bool.false,.bl Bool.false,.bl Bool.false,.bl Bool.false,.bl Bool.false,.bl Bool.false,.bl Bool.false,.bl Bool.false,.bl Bool.false,.bl Bool.false,.bl Bool.false,.bl Bool.false,.bl Bool.false,.bl Bool.false,.bl Bool.false,.bl Bool.false,.bl Bool.false,.bl Bool.false,.bl Bool.false,.bl Bool.false,.bl Bool.false,.bl Bool.false,.bl Bool.false,.bl Bool.false,.bl Bool.false,.bl Bool.false,.bl Bool.false,.bl Bool.false,.bl Bool.false,.bl Bool.false,.bl Bool.false,.bl Bool.false,.bl Bool.false,.bl Bool.false,.bl Bool.false,.bl Bool.false,.bl Bool.false,.bl Bool.false,.bl Bool.false,.bl Bool.false,.bl Bool.false,.bl Bool.false,.bl Bool.false,.bl Bool.false,.bl Bool.false,.bl Bool.false,.bl Bool.false,.bl Bool.false,.bl Bool.false,.bl Bool.false,.bl Bool.false,.bl Bool.false,.bl Bool.false,.bl Bool.false,.bl Bool.false,.bl Bool.false,.bl Bool.false,.bl Bool.false,.bl Bool.false,.bl Bool.false,.bl Bool.false,.bl Bool.false,.bl Bool.false,.bl Bool.false,.bl Bool.false,.bl Bool.false,.bl Bool.false,.bl Bool.false,.bl Bool.false,.bl Bool.false,.bl Bool.false,.bl Bool.false,.bl Bool.false,.bl Bool.false,.bl Bool.false,.bl Bool.false,.bl Bool.false,.bl Bool.false,.bl Bool.false,.bl Bool.false,.bl Bool.false,.bl Bool.false,.bl Bool.false,.bl Bool.false,.bl Bool.false,.bl Bool.false,.bl Bool.false,.bl Bool.false,.bl Bool.false,.bl Bool.false,.bl Bool.false,.bl Bool.false,.bl Bool.false,.bl Bool.false,.bl Bool.false,.bl Bool.false,.bl Bool.false,.bl Bool.false,.bl Bool.false,.bl Bool.false,.bl Bool.false,.bl Bool.false,.bl Bool.false,.bl Bool.false,.bl Bool.false,.bl Bool.false,.bl Bool.false,.bl Bool.false,.bl Bool.false,.bl Bool.false,.bl Bool.false,.bl Bool.false,.bl Bool.false,.bl Bool.false,.bl Bool.false,.bl Bool.false,.bl Bool.false,.bl Bool.false,.bl Bool.false,.bl Bool.false,.bl Bool.false,.bl Bool.false,.bl Bool.false,.bl Bool.false,.bl Bool.false,.bl Bool.false,.bl Bool.false,.bl Bool.false,.bl Bool.false,.bl Bool.false,.bl Bool.false,.bl Bool.false,.bl Bool.false,.bl Bool.false,.bl Bool.false,.bl Bool.false,.bl Bool.false,.bl Bool.false,.bl Bool.false,.bl Bool.false,.bl Bool.false,.bl Bool.false,.bl Bool.false,.bl Bool.false,.bl Bool.false,.bl Bool.false,.bl Bool.false,.bl Bool.false,.bl Bool.false,.bl Bool.false,.bl Bool.false,.bl Bool.false,.bl Bool.false,.bl Bool.false,.bl Bool.false,.bl Bool.false,.bl Bool.false,.bl Bool.false,.bl Bool.false,.bl Bool.false,.bl Bool.false,.bl Bool.false,.bl Bool.false,.bl Bool.false,.bl Bool.false,.bl Bool.false,.bl Bool.false,.bl Bool.false,.bl Bool.false,.bl Bool.false,.bl Bool.false,.bl Bool.false,.bl Bool.false,.bl Bool.false,.bl Bool.false,.bl Bool.false,.bl Bool.false,.bl Bool.false,.bl Bool.false,.bl Bool.false,.bl Bool.false,.bl Bool.false,.bl Bool.false,.bl Bool.false,.bl Bool.false,.bl Bool.false,.bl Bool.false,.bl Bool.false,.bl Bool.false,.bl Bool.false,.bl Bool.false,.bl Bool.false,.bl Bool.false],pl:=[]}),
 (261,{kd:= .other,size:=1,bytes:=0,zero:=[],cmp:= .none,pl:=[]}),
 (264,{kd:= .ptr 260,size:=1,bytes:=8,zero:=[.ot (.pointer .none)],cmp:= .none,pl:=[]}),
 (265,{kd:= .func,size:=1,bytes:=8,zero:=[.ot .nilFunc],cmp:= .none,pl:=[]}),
 (270,{kd:= .func,size:=1,bytes:=8,zero:=[.ot .nilFunc],cmp:= .none,pl:=[]}),
 (272,{kd:= .slice 4,size:=1,bytes:=24,zero:=[.fs 1 []],cmp:= .none,pl:=[]}),
 (273,{kd:= .ptr 232,size:=1,bytes:=8,zero:=[.ot (.pointer .none)],cmp:= .none,pl:=[]}),
 (277,{kd:= .int .u64,size:=1,bytes:=8,zero:=[.it .u64 0],cmp:= .some [.it .u64 0],pl:=[]}),
 (279,{kd:= .slice 28,size:=1,bytes:=24,zero:=[.fs 1 []],cmp:= .none,pl:=[]}),
 (282,{kd:= .slice 133,size:=1,bytes:=24,zero:=[.fs 4 []],cmp:= .none,pl:=[]}),
 (293,{kd:= .int .i64,size:=1,bytes:=8,zero:=[.it .i64 0],cmp:= .some [.it .i64 0],pl:=[]}),
 (294,{kd:= .other,size:=1,bytes:=0,zero:=[],cmp:= .none,pl:=[]}),
 (300,{kd:= .int .u32,size:=1,bytes:=4,zero:=[.it .u32 0],cmp:= .some [.it .u32 0],pl:=[]}),
 (302,{kd:= .int .u64,size:=1,bytes:=8,zero:=[.it .u64 0],cmp:= .some [.it .u64 0],pl:=[]}),
 (308,{kd:= .int .u64,size:=1,bytes:=8,zero:=[.it .u64 0],cmp:= .some [.it .u64 0],pl:=[]}),
 (312,{kd:= .ptr 3,size:=1,bytes:=8,zero:=[.ot (.pointer .none)],cmp:= .none,pl:=[]}),
 (316,{kd:= .ptr 318,size:=1,bytes:=8,zero:=[.ot (.pointer .none)],cmp:= .none,pl:=[]}),
 (318,{kd:= .struct [(0,316),(1,30)],size:=2,bytes:=32,zero:=[.ot (.pointer .none),.fs 1 []],cmp:= .none,pl:=[(0,1),(1,1)]}),
 (326,{kd:= .other,size:=1,bytes:=0,zero:=[],cmp:= .none,pl:=[]}),
 (329,{kd:= .ptr 308,size:=1,bytes:=8,zero:=[.ot (.pointer .none)],cmp:= .none,pl:=[]}),
 (330,{kd:= .other,size:=1,bytes:=0,zero:=[],cmp:= .none,pl:=[]}),
 (337,{kd:= .ptr 5,size:=1,bytes:=8,zero:=[.ot (.pointer .none)],cmp:= .none,pl:=[]}),
 (340,{kd:= .usafe,size:=1,bytes:=8,zero:=[.ot (.pointer .none)],cmp:= .none,pl:=[]}),
 (344,{kd:= .ptr 358,size:=1,bytes:=8,zero:=[.ot (.pointer .none)],cmp:= .none,pl:=[]}),
 (346,{kd:= .struct [(0,17),(1,17),(2,17),(3,9)],size:=4,bytes:=40,zero:=[.ot (.pointer .none),.ot (.pointer .none),.ot (.pointer .none),.st []],cmp:= .none,pl:=[(0,1),(1,1),(2,1),(3,1)]}),
 (347,{kd:= .arr 0 16,size:=0,bytes:=0,zero:=[],cmp:= .none,pl:=[]}),
 (349,{kd:= .struct [(0,347)],size:=0,bytes:=0,zero:=[],cmp:= .none,pl:=[(0,0)]}),
 (350,{kd:= .int .u8,size:=1,bytes:=1,zero:=[.it .u8 0],cmp:= .some [.it .u8 0],pl:=[]}),
 (351,{kd:= .int .u8,size:=1,bytes:=1,zero:=[.it .u8 0],cmp:= .some [.it .u8 0],pl:=[]}),
 (352,{kd:= .func,size:=1,bytes:=8,zero:=[.ot .nilFunc],cmp:= .none,pl:=[]}),
 (353,{kd:= .int .i32,size:=1,bytes:=4,zero:=[.it .i32 0],cmp:= .some [.it .i32 0],pl:=[]}),
 (354,{kd:= .int .i32,size:=1,bytes:=4,zero:=[.it .i32 0],cmp:= .some [.it .i32 0],pl:=[]}),
 (356,{kd:= .struct [(0,12),(1,12),(2,300),(3,350),(4,5),(5,5),(6,351),(7,352),(8,337),(9,353),(10,354)],size:=11,bytes:=48,zero:=[.it .u64 0,.it .u64 0,.it .u32 0,.it .u8 0,.it .u8 0,.it .u8 0,.it .u8 0,.ot .nilFunc,.ot (.pointer .none),.it .i32 0,.it .i32 0],cmp:= .none,pl:=[(0,1),(1,1),(2,1),(3,1),(4,1),(5,1),(6,1),(7,1),(8,1),(9,1),(10,1)]}),
 (358,{kd:= .struct [(0,9)],size:=1,bytes:=16,zero:=[.st []],cmp:= .some [.st []],pl:=[(0,1)]})]
def ti(t:Nat):Option Ty:=Go.Sy.look t tyL
theorem QQy:tyL.map (λp=>YZ Tryz.prog p.1)=tyL.map (λp=>some p.2):=by kernel_rfl
theorem QB:QU Tryz.prog ti:=QQQ QQy
theorem i2:FnI Tryz.prog 2 1 [] (bd Tryz.f2):=FnI.mk' Tryz.func2 rfl rfl rfl Tryz.call2
theorem i3:FnI Tryz.prog 3 155 [.tmp 6] (bd Tryz.f3):=FnI.mk' Tryz.func3 rfl rfl rfl Tryz.call3
theorem i4:FnI Tryz.prog 4 141 [.tmp 4] (bd Tryz.f4):=FnI.mk' Tryz.func4 rfl rfl rfl Tryz.call4
theorem i5:FnI Tryz.prog 5 161 [.tmp 4] (bd Tryz.f5):=FnI.mk' Tryz.func5 rfl rfl rfl Tryz.call5
theorem i6:FnI Tryz.prog 6 58 [.tmp 4] (bd Tryz.f6):=FnI.mk' Tryz.func6 rfl rfl rfl Tryz.call6
theorem i7:FnI Tryz.prog 7 54 [.tmp 4] (bd Tryz.f7):=FnI.mk' Tryz.func7 rfl rfl rfl Tryz.call7
theorem i8:FnI Tryz.prog 8 83 [.tmp 0] (bd Tryz.f8):=FnI.mk' Tryz.func8 rfl rfl rfl Tryz.call8
theorem i9:FnI Tryz.prog 9 18 [.tmp 2] (bd Tryz.f9):=FnI.mk' Tryz.func9 rfl rfl rfl Tryz.call9
theorem i10:FnI Tryz.prog 10 32 [.tmp 4] (bd Tryz.f10):=FnI.mk' Tryz.func10 rfl rfl rfl Tryz.call10
theorem i11:FnI Tryz.prog 11 9 [.tmp 2] (bd Tryz.f11):=FnI.mk' Tryz.func11 rfl rfl rfl Tryz.call11
theorem i12:FnI Tryz.prog 12 33 [.cell 4 37,.cell 5 28] (bd Tryz.f12):=FnI.mk' Tryz.func12 rfl rfl rfl Tryz.call12
theorem i13:FnI Tryz.prog 13 35 [.tmp 4,.tmp 5] (bd Tryz.f13):=FnI.mk' Tryz.func13 rfl rfl rfl Tryz.call13
theorem i14:FnI Tryz.prog 14 14 [.tmp 4] (bd Tryz.f14):=FnI.mk' Tryz.func14 rfl rfl rfl Tryz.call14
theorem i15:FnI Tryz.prog 15 14 [.tmp 4] (bd Tryz.f15):=FnI.mk' Tryz.func15 rfl rfl rfl Tryz.call15
theorem i16:FnI Tryz.prog 16 10 [.tmp 2] (bd Tryz.f16):=FnI.mk' Tryz.func16 rfl rfl rfl Tryz.call16
theorem i17:FnI Tryz.prog 17 4 [.tmp 2] (bd Tryz.f17):=FnI.mk' Tryz.func17 rfl rfl rfl Tryz.call17
theorem i18:FnI Tryz.prog 18 19 [.tmp 2,.tmp 3] (bd Tryz.f18):=FnI.mk' Tryz.func18 rfl rfl rfl Tryz.call18
theorem i19:FnI Tryz.prog 19 33 [.tmp 2,.tmp 3] (bd Tryz.f19):=FnI.mk' Tryz.func19 rfl rfl rfl Tryz.call19
theorem i20:FnI Tryz.prog 20 16 [.tmp 2,.tmp 3] (bd Tryz.f20):=FnI.mk' Tryz.func20 rfl rfl rfl Tryz.call20
theorem i21:FnI Tryz.prog 21 41 [.tmp 4,.tmp 5] (bd Tryz.f21):=FnI.mk' Tryz.func21 rfl rfl rfl Tryz.call21
theorem i22:FnI Tryz.prog 22 14 [.tmp 4] (bd Tryz.f22):=FnI.mk' Tryz.func22 rfl rfl rfl Tryz.call22
theorem i23:FnI Tryz.prog 23 6 [.tmp 2] (bd Tryz.f23):=FnI.mk' Tryz.func23 rfl rfl rfl Tryz.call23
theorem i24:FnI Tryz.prog 24 85 [.tmp 4] (bd Tryz.f24):=FnI.mk' Tryz.func24 rfl rfl rfl Tryz.call24
theorem i25:FnI Tryz.prog 25 43 [.tmp 4,.tmp 5] (bd Tryz.f25):=FnI.mk' Tryz.func25 rfl rfl rfl Tryz.call25
theorem i26:FnI Tryz.prog 26 55 [.tmp 4] (bd Tryz.f26):=FnI.mk' Tryz.func26 rfl rfl rfl Tryz.call26
theorem i27:FnI Tryz.prog 27 29 [.tmp 2] (bd Tryz.f27):=FnI.mk' Tryz.func27 rfl rfl rfl Tryz.call27
theorem i28:FnI Tryz.prog 28 26 [.tmp 4] (bd Tryz.f28):=FnI.mk' Tryz.func28 rfl rfl rfl Tryz.call28
theorem i32:FnI Tryz.prog 32 59 [.tmp 0] (bd Tryz.f32):=FnI.mk' Tryz.func32 rfl rfl rfl Tryz.call32
theorem i33:FnI Tryz.prog 33 64 [.tmp 6] (bd Tryz.f33):=FnI.mk' Tryz.func33 rfl rfl rfl Tryz.call33
theorem i34:FnI Tryz.prog 34 157 [.tmp 8] (bd Tryz.f34):=FnI.mk' Tryz.func34 rfl rfl rfl Tryz.call34
theorem i35:FnI Tryz.prog 35 27 [.tmp 6] (bd Tryz.f35):=FnI.mk' Tryz.func35 rfl rfl rfl Tryz.call35
theorem i36:FnI Tryz.prog 36 53 [.tmp 6] (bd Tryz.f36):=FnI.mk' Tryz.func36 rfl rfl rfl Tryz.call36
theorem i37:FnI Tryz.prog 37 166 [.tmp 6] (bd Tryz.f37):=FnI.mk' Tryz.func37 rfl rfl rfl Tryz.call37
theorem i38:FnI Tryz.prog 38 49 [.tmp 4] (bd Tryz.f38):=FnI.mk' Tryz.func38 rfl rfl rfl Tryz.call38
theorem i39:FnI Tryz.prog 39 13 [] (bd Tryz.f39):=FnI.mk' Tryz.func39 rfl rfl rfl Tryz.call39
theorem i40:FnI Tryz.prog 40 66 [.tmp 4] (bd Tryz.f40):=FnI.mk' Tryz.func40 rfl rfl rfl Tryz.call40
theorem i42:FnI Tryz.prog 42 39 [.tmp 2] (bd Tryz.f42):=FnI.mk' Tryz.func42 rfl rfl rfl Tryz.call42
theorem i45:FnI Tryz.prog 45 25 [.tmp 2] (bd Tryz.f45):=FnI.mk' Tryz.func45 rfl rfl rfl Tryz.call45
theorem i46:FnI Tryz.prog 46 10 [.tmp 0] (bd Tryz.f46):=FnI.mk' Tryz.func46 rfl rfl rfl Tryz.call46
theorem i47:FnI Tryz.prog 47 8 [.tmp 4] (bd Tryz.f47):=FnI.mk' Tryz.func47 rfl rfl rfl Tryz.call47
theorem i48:FnI Tryz.prog 48 27 [.tmp 6] (bd Tryz.f48):=FnI.mk' Tryz.func48 rfl rfl rfl Tryz.call48
theorem i49:FnI Tryz.prog 49 10 [.tmp 2] (bd Tryz.f49):=FnI.mk' Tryz.func49 rfl rfl rfl Tryz.call49
theorem i50:FnI Tryz.prog 50 12 [.tmp 2] (bd Tryz.f50):=FnI.mk' Tryz.func50 rfl rfl rfl Tryz.call50
theorem i51:FnI Tryz.prog 51 21 [.tmp 4] (bd Tryz.f51):=FnI.mk' Tryz.func51 rfl rfl rfl Tryz.call51
theorem i52:FnI Tryz.prog 52 4 [.tmp 2] (bd Tryz.f52):=FnI.mk' Tryz.func52 rfl rfl rfl Tryz.call52
theorem i53:FnI Tryz.prog 53 28 [.tmp 2,.tmp 3] (bd Tryz.f53):=FnI.mk' Tryz.func53 rfl rfl rfl Tryz.call53
theorem i54:FnI Tryz.prog 54 28 [.tmp 6,.tmp 7] (bd Tryz.f54):=FnI.mk' Tryz.func54 rfl rfl rfl Tryz.call54
theorem i55:FnI Tryz.prog 55 6 [.tmp 4] (bd Tryz.f55):=FnI.mk' Tryz.func55 rfl rfl rfl Tryz.call55
theorem i56:FnI Tryz.prog 56 33 [.tmp 6,.tmp 7] (bd Tryz.f56):=FnI.mk' Tryz.func56 rfl rfl rfl Tryz.call56
theorem i57:FnI Tryz.prog 57 13 [.tmp 2] (bd Tryz.f57):=FnI.mk' Tryz.func57 rfl rfl rfl Tryz.call57
theorem i58:FnI Tryz.prog 58 8 [.tmp 2] (bd Tryz.f58):=FnI.mk' Tryz.func58 rfl rfl rfl Tryz.call58
theorem i59:FnI Tryz.prog 59 14 [.tmp 2,.tmp 3] (bd Tryz.f59):=FnI.mk' Tryz.func59 rfl rfl rfl Tryz.call59
theorem i60:FnI Tryz.prog 60 8 [.tmp 2] (bd Tryz.f60):=FnI.mk' Tryz.func60 rfl rfl rfl Tryz.call60
theorem i61:FnI Tryz.prog 61 14 [.tmp 2,.tmp 3] (bd Tryz.f61):=FnI.mk' Tryz.func61 rfl rfl rfl Tryz.call61
theorem i62:FnI Tryz.prog 62 21 [.tmp 2] (bd Tryz.f62):=FnI.mk' Tryz.func62 rfl rfl rfl Tryz.call62
theorem i63:FnI Tryz.prog 63 45 [.tmp 10] (bd Tryz.f63):=FnI.mk' Tryz.func63 rfl rfl rfl Tryz.call63
theorem i64:FnI Tryz.prog 64 24 [.tmp 2] (bd Tryz.f64):=FnI.mk' Tryz.func64 rfl rfl rfl Tryz.call64
theorem i65:FnI Tryz.prog 65 48 [.tmp 4,.tmp 5] (bd Tryz.f65):=FnI.mk' Tryz.func65 rfl rfl rfl Tryz.call65
theorem i66:FnI Tryz.prog 66 26 [.tmp 4] (bd Tryz.f66):=FnI.mk' Tryz.func66 rfl rfl rfl Tryz.call66
theorem i67:FnI Tryz.prog 67 8 [.tmp 2] (bd Tryz.f67):=FnI.mk' Tryz.func67 rfl rfl rfl Tryz.call67
theorem i68:FnI Tryz.prog 68 8 [.tmp 2] (bd Tryz.f68):=FnI.mk' Tryz.func68 rfl rfl rfl Tryz.call68
theorem i69:FnI Tryz.prog 69 28 [.tmp 8] (bd Tryz.f69):=FnI.mk' Tryz.func69 rfl rfl rfl Tryz.call69
theorem i73:FnI Tryz.prog 73 51 [.tmp 4] (bd Tryz.f73):=FnI.mk' Tryz.func73 rfl rfl rfl Tryz.call73
theorem i75:FnI Tryz.prog 75 51 [.cell 4 121,.tmp 5] (bd Tryz.f75):=FnI.mk' Tryz.func75 rfl rfl rfl Tryz.call75
theorem i76:FnI Tryz.prog 76 14 [.tmp 2,.tmp 3] (bd Tryz.f76):=FnI.mk' Tryz.func76 rfl rfl rfl Tryz.call76
theorem i77:FnI Tryz.prog 77 17 [.tmp 2,.tmp 3] (bd Tryz.f77):=FnI.mk' Tryz.func77 rfl rfl rfl Tryz.call77
theorem i78:FnI Tryz.prog 78 19 [.cell 6 49] (bd Tryz.f78):=FnI.mk' Tryz.func78 rfl rfl rfl Tryz.call78
theorem i79:FnI Tryz.prog 79 33 [.tmp 4] (bd Tryz.f79):=FnI.mk' Tryz.func79 rfl rfl rfl Tryz.call79
theorem i80:FnI Tryz.prog 80 20 [.cell 6 49] (bd Tryz.f80):=FnI.mk' Tryz.func80 rfl rfl rfl Tryz.call80
theorem i81:FnI Tryz.prog 81 29 [.tmp 4,.cell 5 129,.tmp 6] (bd Tryz.f81):=FnI.mk' Tryz.func81 rfl rfl rfl Tryz.call81
theorem i82:FnI Tryz.prog 82 11 [.tmp 2] (bd Tryz.f82):=FnI.mk' Tryz.func82 rfl rfl rfl Tryz.call82
theorem i83:FnI Tryz.prog 83 34 [.tmp 4,.tmp 5] (bd Tryz.f83):=FnI.mk' Tryz.func83 rfl rfl rfl Tryz.call83
theorem i84:FnI Tryz.prog 84 30 [.tmp 2,.tmp 3,.tmp 4] (bd Tryz.f84):=FnI.mk' Tryz.func84 rfl rfl rfl Tryz.call84
theorem i85:FnI Tryz.prog 85 23 [.cell 4 133] (bd Tryz.f85):=FnI.mk' Tryz.func85 rfl rfl rfl Tryz.call85
theorem i86:FnI Tryz.prog 86 23 [.cell 4 129] (bd Tryz.f86):=FnI.mk' Tryz.func86 rfl rfl rfl Tryz.call86
theorem i87:FnI Tryz.prog 87 29 [.tmp 4] (bd Tryz.f87):=FnI.mk' Tryz.func87 rfl rfl rfl Tryz.call87
theorem i88:FnI Tryz.prog 88 53 [.tmp 4] (bd Tryz.f88):=FnI.mk' Tryz.func88 rfl rfl rfl Tryz.call88
theorem i89:FnI Tryz.prog 89 8 [.tmp 4] (bd Tryz.f89):=FnI.mk' Tryz.func89 rfl rfl rfl Tryz.call89
theorem i90:FnI Tryz.prog 90 50 [.tmp 6] (bd Tryz.f90):=FnI.mk' Tryz.func90 rfl rfl rfl Tryz.call90
theorem i91:FnI Tryz.prog 91 98 [.tmp 6] (bd Tryz.f91):=FnI.mk' Tryz.func91 rfl rfl rfl Tryz.call91
theorem i92:FnI Tryz.prog 92 26 [] (bd Tryz.f92):=FnI.mk' Tryz.func92 rfl rfl rfl Tryz.call92
theorem QQz:FnI Tryz.prog 100 28 [.tmp 2] (bd Tryz.f100):=FnI.mk' Tryz.func100 rfl rfl rfl Tryz.call100
theorem QUC:FnI Tryz.prog 101 2 [.cell 0 37] (bd Tryz.f101):=FnI.mk' Tryz.func101 rfl rfl rfl Tryz.call101
theorem QLT:FnI Tryz.prog 102 70 [.tmp 6] (bd Tryz.f102):=FnI.mk' Tryz.func102 rfl rfl rfl Tryz.call102
theorem QQ0:FnI Tryz.prog 103 40 [.tmp 4,.cell 5 129,.tmp 6] (bd Tryz.f103):=FnI.mk' Tryz.func103 rfl rfl rfl Tryz.call103
theorem QOn:FnI Tryz.prog 104 123 [.tmp 10] (bd Tryz.f104):=FnI.mk' Tryz.func104 rfl rfl rfl Tryz.call104
theorem QUD:FnI Tryz.prog 105 19 [] (bd Tryz.f105):=FnI.mk' Tryz.func105 rfl rfl rfl Tryz.call105
theorem QSj:FnI Tryz.prog 106 11 [.tmp 4,.tmp 5] (bd Tryz.f106):=FnI.mk' Tryz.func106 rfl rfl rfl Tryz.call106
theorem QUE:FnI Tryz.prog 107 8 [.tmp 4] (bd Tryz.f107):=FnI.mk' Tryz.func107 rfl rfl rfl Tryz.call107
theorem QUF:FnI Tryz.prog 108 9 [.tmp 4] (bd Tryz.f108):=FnI.mk' Tryz.func108 rfl rfl rfl Tryz.call108
theorem QUG:FnI Tryz.prog 109 6 [.tmp 2] (bd Tryz.f109):=FnI.mk' Tryz.func109 rfl rfl rfl Tryz.call109
theorem QUH:FnI Tryz.prog 110 23 [.tmp 2] (bd Tryz.f110):=FnI.mk' Tryz.func110 rfl rfl rfl Tryz.call110
theorem QSk:FnI Tryz.prog 111 23 [.cell 4 129] (bd Tryz.f111):=FnI.mk' Tryz.func111 rfl rfl rfl Tryz.call111
theorem QSl:FnI Tryz.prog 113 23 [.cell 4 133] (bd Tryz.f113):=FnI.mk' Tryz.func113 rfl rfl rfl Tryz.call113
theorem QCJ:FnI Tryz.prog 114 30 [.tmp 6] (bd Tryz.f114):=FnI.mk' Tryz.func114 rfl rfl rfl Tryz.call114
theorem QSm:FnI Tryz.prog 115 34 [.tmp 4] (bd Tryz.f115):=FnI.mk' Tryz.func115 rfl rfl rfl Tryz.call115
theorem QLU:FnI Tryz.prog 116 22 [.tmp 2] (bd Tryz.f116):=FnI.mk' Tryz.func116 rfl rfl rfl Tryz.call116
theorem QMI:FnI Tryz.prog 117 15 [.tmp 4] (bd Tryz.f117):=FnI.mk' Tryz.func117 rfl rfl rfl Tryz.call117
theorem QSn:FnI Tryz.prog 118 41 [.tmp 4] (bd Tryz.f118):=FnI.mk' Tryz.func118 rfl rfl rfl Tryz.call118
theorem QIz:FnI Tryz.prog 119 20 [.tmp 2] (bd Tryz.f119):=FnI.mk' Tryz.func119 rfl rfl rfl Tryz.call119
theorem QUI:FnI Tryz.prog 120 56 [.tmp 2,.tmp 3] (bd Tryz.f120):=FnI.mk' Tryz.func120 rfl rfl rfl Tryz.call120
theorem QUJ:FnI Tryz.prog 122 7 [.tmp 2] (bd Tryz.f122):=FnI.mk' Tryz.func122 rfl rfl rfl Tryz.call122
theorem QUK:FnI Tryz.prog 123 19 [.cell 4 37] (bd Tryz.f123):=FnI.mk' Tryz.func123 rfl rfl rfl Tryz.call123
theorem QUL:FnI Tryz.prog 125 8 [.tmp 2] (bd Tryz.f125):=FnI.mk' Tryz.func125 rfl rfl rfl Tryz.call125
theorem QQ1:FnI Tryz.prog 126 23 [.cell 4 181,.tmp 5] (bd Tryz.f126):=FnI.mk' Tryz.func126 rfl rfl rfl Tryz.call126
theorem QUM:FnI Tryz.prog 127 12 [.tmp 4] (bd Tryz.f127):=FnI.mk' Tryz.func127 rfl rfl rfl Tryz.call127
theorem QUN:FnI Tryz.prog 128 22 [.tmp 4] (bd Tryz.f128):=FnI.mk' Tryz.func128 rfl rfl rfl Tryz.call128
theorem QUO:FnI Tryz.prog 129 22 [] (bd Tryz.f129):=FnI.mk' Tryz.func129 rfl rfl rfl Tryz.call129
theorem QUP:FnI Tryz.prog 130 39 [.tmp 4] (bd Tryz.f130):=FnI.mk' Tryz.func130 rfl rfl rfl Tryz.call130
theorem QQ2:FnI Tryz.prog 131 41 [.cell 2 129,.tmp 3] (bd Tryz.f131):=FnI.mk' Tryz.func131 rfl rfl rfl Tryz.call131
theorem QUQ:FnI Tryz.prog 132 24 [.tmp 4] (bd Tryz.f132):=FnI.mk' Tryz.func132 rfl rfl rfl Tryz.call132
theorem QSo:FnI Tryz.prog 133 30 [.cell 2 37,.tmp 3] (bd Tryz.f133):=FnI.mk' Tryz.func133 rfl rfl rfl Tryz.call133
theorem QQ3:FnI Tryz.prog 134 58 [.tmp 8] (bd Tryz.f134):=FnI.mk' Tryz.func134 rfl rfl rfl Tryz.call134
theorem QQ4:FnI Tryz.prog 135 43 [.cell 2 37,.tmp 3] (bd Tryz.f135):=FnI.mk' Tryz.func135 rfl rfl rfl Tryz.call135
theorem QUR:FnI Tryz.prog 136 33 [.cell 2 196] (bd Tryz.f136):=FnI.mk' Tryz.func136 rfl rfl rfl Tryz.call136
theorem QUS:FnI Tryz.prog 137 22 [.tmp 2] (bd Tryz.f137):=FnI.mk' Tryz.func137 rfl rfl rfl Tryz.call137
theorem QMJ:FnI Tryz.prog 138 42 [.cell 2 133,.tmp 3] (bd Tryz.f138):=FnI.mk' Tryz.func138 rfl rfl rfl Tryz.call138
theorem QUT:FnI Tryz.prog 139 14 [.cell 4 37] (bd Tryz.f139):=FnI.mk' Tryz.func139 rfl rfl rfl Tryz.call139
theorem QSp:FnI Tryz.prog 140 48 [.tmp 4] (bd Tryz.f140):=FnI.mk' Tryz.func140 rfl rfl rfl Tryz.call140
theorem QUU:FnI Tryz.prog 141 19 [.tmp 4] (bd Tryz.f141):=FnI.mk' Tryz.func141 rfl rfl rfl Tryz.call141
theorem QUV:FnI Tryz.prog 142 21 [] (bd Tryz.f142):=FnI.mk' Tryz.func142 rfl rfl rfl Tryz.call142
theorem QQ5:FnI Tryz.prog 143 27 [.tmp 4] (bd Tryz.f143):=FnI.mk' Tryz.func143 rfl rfl rfl Tryz.call143
theorem QMK:FnI Tryz.prog 144 58 [.cell 4 181,.tmp 5] (bd Tryz.f144):=FnI.mk' Tryz.func144 rfl rfl rfl Tryz.call144
theorem QSq:FnI Tryz.prog 145 29 [.tmp 4] (bd Tryz.f145):=FnI.mk' Tryz.func145 rfl rfl rfl Tryz.call145
theorem QUW:FnI Tryz.prog 146 6 [.tmp 2] (bd Tryz.f146):=FnI.mk' Tryz.func146 rfl rfl rfl Tryz.call146
theorem QOo:FnI Tryz.prog 147 62 [.tmp 8] (bd Tryz.f147):=FnI.mk' Tryz.func147 rfl rfl rfl Tryz.call147
theorem QSr:FnI Tryz.prog 148 46 [.tmp 8] (bd Tryz.f148):=FnI.mk' Tryz.func148 rfl rfl rfl Tryz.call148
theorem QUX:FnI Tryz.prog 154 10 [.cell 0 37] (bd Tryz.f154):=FnI.mk' Tryz.func154 rfl rfl rfl Tryz.call154
theorem QQ6:FnI Tryz.prog 155 41 [.cell 2 129,.tmp 3] (bd Tryz.f155):=FnI.mk' Tryz.func155 rfl rfl rfl Tryz.call155
theorem QSs:FnI Tryz.prog 156 12 [.tmp 2,.tmp 3] (bd Tryz.f156):=FnI.mk' Tryz.func156 rfl rfl rfl Tryz.call156
theorem QSt:FnI Tryz.prog 157 9 [.tmp 2,.tmp 3] (bd Tryz.f157):=FnI.mk' Tryz.func157 rfl rfl rfl Tryz.call157
theorem QSu:FnI Tryz.prog 158 18 [.tmp 4,.tmp 5] (bd Tryz.f158):=FnI.mk' Tryz.func158 rfl rfl rfl Tryz.call158
theorem QSv:FnI Tryz.prog 159 19 [.cell 6 37,.tmp 7] (bd Tryz.f159):=FnI.mk' Tryz.func159 rfl rfl rfl Tryz.call159
theorem QUY:FnI Tryz.prog 160 16 [] (bd Tryz.f160):=FnI.mk' Tryz.func160 rfl rfl rfl Tryz.call160
theorem QSw:FnI Tryz.prog 161 15 [.tmp 4,.tmp 5] (bd Tryz.f161):=FnI.mk' Tryz.func161 rfl rfl rfl Tryz.call161
theorem QUZ:FnI Tryz.prog 162 66 [.tmp 8] (bd Tryz.f162):=FnI.mk' Tryz.func162 rfl rfl rfl Tryz.call162
theorem QUa:FnI Tryz.prog 163 19 [.tmp 4] (bd Tryz.f163):=FnI.mk' Tryz.func163 rfl rfl rfl Tryz.call163
theorem QUb:FnI Tryz.prog 164 43 [.tmp 4] (bd Tryz.f164):=FnI.mk' Tryz.func164 rfl rfl rfl Tryz.call164
theorem QUc:FnI Tryz.prog 165 14 [.cell 4 37] (bd Tryz.f165):=FnI.mk' Tryz.func165 rfl rfl rfl Tryz.call165
theorem QSx:FnI Tryz.prog 166 6 [.tmp 4] (bd Tryz.f166):=FnI.mk' Tryz.func166 rfl rfl rfl Tryz.call166
theorem QOp:FnI Tryz.prog 167 37 [.cell 2 133,.tmp 3] (bd Tryz.f167):=FnI.mk' Tryz.func167 rfl rfl rfl Tryz.call167
theorem QUd:FnI Tryz.prog 168 92 [] (bd Tryz.f168):=FnI.mk' Tryz.func168 rfl rfl rfl Tryz.call168
theorem QUe:FnI Tryz.prog 170 18 [.tmp 4] (bd Tryz.f170):=FnI.mk' Tryz.func170 rfl rfl rfl Tryz.call170
theorem QUf:FnI Tryz.prog 171 53 [.tmp 2] (bd Tryz.f171):=FnI.mk' Tryz.func171 rfl rfl rfl Tryz.call171
theorem QQ7:FnI Tryz.prog 176 29 [.cell 2 37,.tmp 3] (bd Tryz.f176):=FnI.mk' Tryz.func176 rfl rfl rfl Tryz.call176
theorem QUg:FnI Tryz.prog 177 20 [] (bd Tryz.f177):=FnI.mk' Tryz.func177 rfl rfl rfl Tryz.call177
theorem QUh:FnI Tryz.prog 178 68 [.tmp 2] (bd Tryz.f178):=FnI.mk' Tryz.func178 rfl rfl rfl Tryz.call178
theorem QUi:FnI Tryz.prog 179 32 [.tmp 2] (bd Tryz.f179):=FnI.mk' Tryz.func179 rfl rfl rfl Tryz.call179
theorem QSy:FnI Tryz.prog 180 32 [.cell 2 37,.tmp 3] (bd Tryz.f180):=FnI.mk' Tryz.func180 rfl rfl rfl Tryz.call180
theorem QLV:FnI Tryz.prog 181 32 [.tmp 2,.tmp 3,.tmp 4] (bd Tryz.f181):=FnI.mk' Tryz.func181 rfl rfl rfl Tryz.call181
theorem QQ8:FnI Tryz.prog 182 15 [.tmp 2] (bd Tryz.f182):=FnI.mk' Tryz.func182 rfl rfl rfl Tryz.call182
theorem QSz:FnI Tryz.prog 183 40 [.tmp 4] (bd Tryz.f183):=FnI.mk' Tryz.func183 rfl rfl rfl Tryz.call183
theorem QUj:FnI Tryz.prog 184 10 [] (bd Tryz.f184):=FnI.mk' Tryz.func184 rfl rfl rfl Tryz.call184
theorem QUk:FnI Tryz.prog 193 9 [.cell 2 37,.tmp 3] (bd Tryz.f193):=FnI.mk' Tryz.func193 rfl rfl rfl Tryz.call193
theorem QUl:FnI Tryz.prog 194 20 [.cell 2 207] (bd Tryz.f194):=FnI.mk' Tryz.func194 rfl rfl rfl Tryz.call194
theorem QOq:FnI Tryz.prog 195 10 [.tmp 2,.tmp 3] (bd Tryz.f195):=FnI.mk' Tryz.func195 rfl rfl rfl Tryz.call195
theorem QUm:FnI Tryz.prog 196 32 [.tmp 8] (bd Tryz.f196):=FnI.mk' Tryz.func196 rfl rfl rfl Tryz.call196
theorem QS0:FnI Tryz.prog 197 7 [.tmp 3] (bd Tryz.f197):=FnI.mk' Tryz.func197 rfl rfl rfl Tryz.call197
theorem QS1:FnI Tryz.prog 198 8 [.tmp 3] (bd Tryz.f198):=FnI.mk' Tryz.func198 rfl rfl rfl Tryz.call198
theorem QUn:FnI Tryz.prog 199 30 [.cell 2 196] (bd Tryz.f199):=FnI.mk' Tryz.func199 rfl rfl rfl Tryz.call199
theorem QS2:FnI Tryz.prog 200 7 [.tmp 3] (bd Tryz.f200):=FnI.mk' Tryz.func200 rfl rfl rfl Tryz.call200
theorem QUo:FnI Tryz.prog 201 21 [.tmp 4] (bd Tryz.f201):=FnI.mk' Tryz.func201 rfl rfl rfl Tryz.call201
theorem QUp:FnI Tryz.prog 202 18 [.tmp 4] (bd Tryz.f202):=FnI.mk' Tryz.func202 rfl rfl rfl Tryz.call202
theorem QUq:FnI Tryz.prog 208 21 [.cell 2 260,.tmp 3] (bd Tryz.f208):=FnI.mk' Tryz.func208 rfl rfl rfl Tryz.call208
theorem QS3:FnI Tryz.prog 209 16 [.tmp 4] (bd Tryz.f209):=FnI.mk' Tryz.func209 rfl rfl rfl Tryz.call209
theorem QUr:FnI Tryz.prog 210 22 [.tmp 4] (bd Tryz.f210):=FnI.mk' Tryz.func210 rfl rfl rfl Tryz.call210
theorem QS4:FnI Tryz.prog 213 29 [] (bd Tryz.f213):=FnI.mk' Tryz.func213 rfl rfl rfl Tryz.call213
theorem QS5:FnI Tryz.prog 214 4 [.tmp 2] (bd Tryz.f214):=FnI.mk' Tryz.func214 rfl rfl rfl Tryz.call214
theorem QUs:FnI Tryz.prog 215 6 [.tmp 2] (bd Tryz.f215):=FnI.mk' Tryz.func215 rfl rfl rfl Tryz.call215
theorem QS6:FnI Tryz.prog 216 17 [.tmp 6] (bd Tryz.f216):=FnI.mk' Tryz.func216 rfl rfl rfl Tryz.call216
theorem QUt:FnI Tryz.prog 217 36 [.tmp 4,.tmp 5] (bd Tryz.f217):=FnI.mk' Tryz.func217 rfl rfl rfl Tryz.call217
theorem QQ9:FnI Tryz.prog 218 20 [.tmp 5] (bd Tryz.f218):=FnI.mk' Tryz.func218 rfl rfl rfl Tryz.call218
theorem QUu:FnI Tryz.prog 219 18 [.tmp 4] (bd Tryz.f219):=FnI.mk' Tryz.func219 rfl rfl rfl Tryz.call219
theorem QUv:FnI Tryz.prog 223 8 [.tmp 2] (bd Tryz.f223):=FnI.mk' Tryz.func223 rfl rfl rfl Tryz.call223
theorem QUw:FnI Tryz.prog 224 25 [.tmp 2] (bd Tryz.f224):=FnI.mk' Tryz.func224 rfl rfl rfl Tryz.call224
theorem QLW:FnI Tryz.prog 225 50 [.tmp 2] (bd Tryz.f225):=FnI.mk' Tryz.func225 rfl rfl rfl Tryz.call225
theorem QUx:FnI Tryz.prog 226 6 [.tmp 2] (bd Tryz.f226):=FnI.mk' Tryz.func226 rfl rfl rfl Tryz.call226
theorem QUy:FnI Tryz.prog 227 26 [.tmp 4] (bd Tryz.f227):=FnI.mk' Tryz.func227 rfl rfl rfl Tryz.call227
theorem QRA:FnI Tryz.prog 235 10 [.tmp 4] (bd Tryz.f235):=FnI.mk' Tryz.func235 rfl rfl rfl Tryz.call235
theorem QS7:FnI Tryz.prog 238 21 [] (bd Tryz.f238):=FnI.mk' Tryz.func238 rfl rfl rfl Tryz.call238
theorem QUz:FnI Tryz.prog 252 25 [.tmp 2] (bd Tryz.f252):=FnI.mk' Tryz.func252 rfl rfl rfl Tryz.call252
theorem QU0:FnI Tryz.prog 253 12 [.tmp 4] (bd Tryz.f253):=FnI.mk' Tryz.func253 rfl rfl rfl Tryz.call253
theorem QML:FnI Tryz.prog 254 8 [.tmp 2] (bd Tryz.f254):=FnI.mk' Tryz.func254 rfl rfl rfl Tryz.call254
theorem QU1:FnI Tryz.prog 255 7 [.tmp 2] (bd Tryz.f255):=FnI.mk' Tryz.func255 rfl rfl rfl Tryz.call255
theorem QMM:FnI Tryz.prog 256 9 [.tmp 2] (bd Tryz.f256):=FnI.mk' Tryz.func256 rfl rfl rfl Tryz.call256
theorem QMN:FnI Tryz.prog 257 9 [.tmp 4] (bd Tryz.f257):=FnI.mk' Tryz.func257 rfl rfl rfl Tryz.call257
theorem QMO:FnI Tryz.prog 258 5 [.tmp 2] (bd Tryz.f258):=FnI.mk' Tryz.func258 rfl rfl rfl Tryz.call258
theorem QU2:FnI Tryz.prog 259 11 [] (bd Tryz.f259):=FnI.mk' Tryz.func259 rfl rfl rfl Tryz.call259
theorem QU3:FnI Tryz.prog 260 61 [.tmp 2] (bd Tryz.f260):=FnI.mk' Tryz.func260 rfl rfl rfl Tryz.call260
theorem QMP:FnI Tryz.prog 277 19 [.tmp 4] (bd Tryz.f277):=FnI.mk' Tryz.func277 rfl rfl rfl Tryz.call277
theorem QU4:FnI Tryz.prog 278 134 [] (bd Tryz.f278):=FnI.mk' Tryz.func278 rfl rfl rfl Tryz.call278
theorem QU5:FnI Tryz.prog 287 49 [] (bd Tryz.f287):=FnI.mk' Tryz.func287 rfl rfl rfl Tryz.call287
def ZP(c:UInt8):Bool:=decide (97<=c.toNat/\c.toNat<=122\/48<=c.toNat/\c.toNat<=57\/c.toNat=46\/c.toNat=95)
def Zt(s:List UInt8):Bool:=decide (1<=s.length/\s.length<=8/\s≠[46]/\s≠[46,46])&&s.all ZP
def Q6(c:UInt8):List UInt8->List (List UInt8)
 |[]=>[[]]
 |b::t=>if b=c then []::Q6 c t else match Q6 c t with
  |[]=>[[b]]
  |w::r=>(b::w)::r
def QO(p:List UInt8):List (List UInt8)×Int:=
 if p=[47]then([],0)else
 match p with
 |[]=>([],9)
 |b::r=>if b=47 then(if(Q6 47 r).length<=4/\(Q6 47 r).all Zt=true then(Q6 47 r,0)else([],9))else([],9)
def Zu(l:List (List UInt8)):List UInt8:=(l.map (λw=>47::w)).flatten
structure Nod where
 p:List UInt8
 d:Bool
 x:List UInt8
deriving DecidableEq
structure Chg where
 k:Int
 a:Nod
 b:Nod
deriving DecidableEq
def key(p:List UInt8):List (List UInt8):=(QO p).1
def QS8(a b:List UInt8):Int:=if Op.bytesLess a b=true then-1 else if Op.bytesLess b a=true then 1 else 0
def QS9:List (List UInt8)->List (List UInt8)->Int
 |[],[]=>0
 |[],_::_=> -1
 |_::_,[]=>1
 |x::a,y::b=>if QS8 x y=0 then QS9 a b else QS8 x y
theorem QBb:∀a:List UInt8,Op.bytesLess a a=false
 |[]=>rfl
 |a::t=>by simp[Op.bytesLess,QBb t]
theorem QBc:∀a b:List UInt8,Op.bytesLess a b=false->Op.bytesLess b a=false->a=b
 |[],[],_,_=>rfl
 |[],_::_,h,_=>by simp[Op.bytesLess]at h
 |_::_,[],_,h=>by simp[Op.bytesLess]at h
 |a::s,b::t,h,k=>by
  simp only[Op.bytesLess,Bool.or_eq_false_iff,W3,decide_eq_false_iff_not,beq_eq_false_iff_ne]at h k;obtain⟨h1,h2⟩:=h;obtain⟨k1,k2⟩:=k;have e:a=b:=by
   apply qj.1;rw[W4]at h1 k1;omega
  subst e;rcases h2 with h2|h2
  ·exact absurd rfl h2
  rcases k2 with k2|k2
  ·exact absurd rfl k2
  rw[QBc s t h2 k2]
theorem Ys:∀a b c:List UInt8,Op.bytesLess a b=true->Op.bytesLess b c=true->Op.bytesLess a c=true
 |_,_,[],_,h=>by simp[Op.bytesLess]at h
 |_,[],_::_,h,_=>by simp[Op.bytesLess]at h
 |[],_::_,_::_,_,_=>rfl
 |a::s,b::t,c::u,h,k=>by
  simp only[Op.bytesLess,wj,zf,decide_eq_true_eq,beq_iff_eq,W4]at h k⊢;rcases h with h|⟨rfl,h⟩
  ·rcases k with k|⟨rfl,k⟩
   ·exact .inl om
   ·exact .inl h
  ·rcases k with k|⟨rfl,k⟩
   ·exact .inl k
   ·exact .inr ⟨rfl,Ys s t u h k⟩
theorem QDm(a b:List UInt8)(h:Op.bytesLess a b=true):Op.bytesLess b a=false:=by
 cases hb:Op.bytesLess b a with
 |false=>rfl
 |true=>have:=Ys _ _ _ h hb;rw[QBb]at this;cases this
theorem QLX(c:UInt8)(s:List UInt8):Q6 c s≠[]:=by
 cases s with
 |nil=>simp[Q6]
 |cons b t=>
  rw[Q6];split
  ·simp
  ·split<;>simp
def lt(x y:Nod):Prop:=QS9 (key x.p) (key y.p)<0
def atP(l:List Nod)(p:List UInt8):Option Nod:=l.find? (λx=>x.p==p)
def allD(a b:List Nod):List Nod:=a++b.filter (λy=>(atP a y.p).isNone)
theorem mixed:Tryz.prog.follows .mixedOrders=true:=by kernel_rfl
variable {p q A B:Prop}
theorem gA(k:q)(h:q->p:=by intro k;with_reducible first|exact Spl.tt k|exact Spl.ff k):p:=h k
theorem gB(k:q)(h:q->p:=by intro k;with_reducible first|exact X9 QB mixed dkk k|exact QLD k|exact QLE k|exact QQZ k|exact QQa k|exact QQb k|exact QLF k|exact XO.mk k|exact QQc k|exact QQd k|exact QLG k):p:=h k
theorem gZ{α:Type}{A B C:α->Prop}(k:∀x,A x->B x->C x)(h:(∀x,A x->B x->C x)->p:=by intro k;with_reducible first|exact QOh k|exact QSU k|exact QSV k):p:=h k
theorem gY{α:Type}{A B:α->Prop}(k:∀x,A x->B x)(h:(∀x,A x->B x)->p:=by intro k;with_reducible first|exact QSW k|exact QSX k|exact g_n k|exact g_b k):p:=h k
theorem gE(k:q)(h:q->p:=by intro k;with_reducible first|exact QOi k|exact g_c k|exact JD.ts k|exact JC.now k|exact AtD.now k|exact Zy.now k|exact QJ6 k|exact QSY k|exact QSZ k|exact g_y k|exact g_f k|exact AtA.mk' k):p:=h k
theorem gS{a b:Prop}(k:a->A)(l:b->B)(h:(a->A)->(b->B)->p:=by intro k l;with_reducible first|exact Spl.pd k l|exact Spl.peq k l|exact Spl.pne k l|exact Spl.seq k l|exact Spl.sne k l):p:=h k l
structure Spp(A B:Prop):Prop where
 l:A
 r:B
theorem yT{α:Type}{A B:α->Prop}(f:(∀x,A x->B x)->p)(k:∀x,A x->True->B x):p:=f λx h=>k x h trivial
theorem QTA(k:Spp A B):QJi A B:=QJi.mk k.l k.r
theorem pdS{hd:Decidable p}(k:Spp (p->A) (¬p->B)):Spl (@decide p hd) A B:=Spl.pd k.l k.r
variable {a b:Int}
theorem QTB(k:Spp (a=b->A) (¬a=b->B)):Spl (a==b) A B:=Spl.peq k.l k.r
theorem QTC(k:Spp (¬a=b->A) (a=b->B)):Spl (a !=b) A B:=Spl.pne k.l k.r
theorem QTD{a b:List UInt8}(k:Spp (a=b->A) (¬a=b->B)):Spl (a==b) A B:=Spl.seq k.l k.r
theorem QTE{a b:List UInt8}(k:Spp (¬a=b->A) (a=b->B)):Spl (!(a==b)) A B:=Spl.sne k.l k.r
theorem QTF{b:Bool}(k:Spp (b=true->A) (b=false->B)):Spl b A B:=Spl.mk k.l k.r
theorem QA(k:q)(h:q->p:=by intro k;with_reducible first|exact Spl.tt k|exact Spl.ff k|exact X9 QB mixed dkk k|exact QLD k|exact QLE k|exact QQZ k|exact QQa k|exact QQb k|exact QLF k|exact XO.mk k|exact QQc k|exact QQd k|exact QLG k|exact QOh k|exact QSU k|exact QSV k|exact yT (λk=>QSW k) k|exact yT (λk=>QSX k) k|exact yT (λk=>g_n k) k|exact yT (λk=>g_b k) k|exact QOi k|exact g_c k|exact JD.ts k|exact JC.now k|exact AtD.now k|exact Zy.now k|exact QJ6 k|exact QSY k|exact QSZ k|exact g_y k|exact g_f k|exact AtA.mk' k|exact QTA k|exact pdS k|exact QTB k|exact QTC k|exact QTD k|exact QTE k|exact Spl.nt k|exact QTF k):p:=h k
theorem gOI(k:q)(h:q->p:=by intro k;with_reducible first|exact Spl.tt k|exact Spl.ff k|exact X9 QB mixed dkk k|exact QLD k|exact QLE k|exact QQZ k|exact QQa k|exact QQb k|exact QLF k|exact XO.mk k|exact QQc k|exact QQd k|exact QLG k|exact QOh k|exact QSU k|exact QSV k|exact yT (λk=>QSW k) k|exact yT (λk=>QSX k) k|exact yT (λk=>g_n k) k|exact yT (λk=>g_b k) k|exact QOi k|exact g_c k|exact JD.ts k|exact JC.now k|exact AtD.now k|exact Zy.now k|exact QJ6 k|exact QSY k|exact QSZ k|exact g_y k|exact g_f k|exact AtA.mk' k|exact QTA k|exact pdS k|exact QTB k|exact QTC k|exact QTD k|exact QTE k|exact Spl.nt k|exact QTF k|exact CallE.inl k):p:=h k
theorem gD(k:q)(h:q->p:=by intro k;first|exact Qi QB mixed dkk k|exact QZ QB mixed 0 dkk k):p:=h k
theorem sS(l:A)(r:B):Spp A B:=⟨l,r⟩
variable {N f k:Nat}
variable {rs:List ResultVar}
theorem cI{M:Nat}{c:Code}{o:Oper}{σ:S}{l:List AV}{K:S->Prop}(hf:FnI Tryz.prog f M rs c)(h:vc Tryz.prog ti M c (QQU ti rs σ.nx o.dst K) ⟨idx 0 l,(σ.nx,.frame (N+1) σ.sl)::σ.mem,σ.nx+1⟩)(hl:Nat.ble l.length M=true:=by exact rfl):CallI Tryz.prog N o σ f l K:=CallI.inl QB hf hl h
theorem QJ{c:Code}{args:List AV}{r:AV}(hi:FnI Tryz.prog f N rs c)(h:vc Tryz.prog ti N c (fin ti rs (· =r)) ⟨idx 0 args,[],0⟩)(hr:r.isP=true:=by exact rfl)(ha:args.all AV.isP=true:=by exact rfl)(hl:args.length<=N:=by exact yg rfl):FnC Tryz.prog f args r:=FnC.of QB hi hr h ha hl
theorem QL{cd:Code}{args:List AV}{pre post:List (Nat×Ob)}{n m:Nat}{st:List Nat}{r:AV}(hi:FnI Tryz.prog f N rs cd)(h:∀T,vc Tryz.prog ti N cd (QSc ti N rs n st T r post) ⟨idx 0 args,pre++Qr n st T,n+1+st.length⟩)
  (ha:args.all (AV.lt n)=true:=by exact rfl) (hp:pre.all (λp=>Nat.blt p.1 n&&p.2.lt n&&p.2.pl)=true:=by exact rfl) (hq:post.all (λp=>Nat.blt p.1 m&&p.2.lt m&&p.2.pl)=true:=by exact rfl) (hnm:n<=m:=by decide) (hrl:r.lt m=true:=by exact rfl) (hs:st.all (λk=>Nat.blt k n&&QCF k pre)=true:=by exact rfl)
  (hqt:post.all (λp=>p.2.nt st p.1)=true:=by exact rfl) (hrt:r.nt st=true:=by exact rfl) (hlen:Nat.ble args.length N=true:=by exact rfl):FnH Tryz.prog f args pre n st r post m:=FnH.of QB hi h ha hp hq hnm hrl hs hqt hrt hlen
variable {c x:UInt8}
theorem QOr(h:97<=c.toNat/\c.toNat<=122\/48<=c.toNat/\c.toNat<=57\/c.toNat=46\/c.toNat=95):ZP c=true:=decide_eq_true h
theorem QOs(h:¬(97<=c.toNat/\c.toNat<=122\/48<=c.toNat/\c.toNat<=57\/c.toNat=46\/c.toNat=95)):ZP c=false:=decide_eq_false h
variable {l s t u:List UInt8}
theorem QLY{f:UInt8->Bool}(h:l[k]? =some c):(l.take (k+1)).all f=((l.take k).all f&&f c):=by
 rw[QW h,vn];simp
theorem QMQ{f:UInt8->Bool}(h:l[k]? =some c)(hc:f c=false):l.all f=false:=by
 rw[Wa];exact⟨c,ya h,by simp[hc]⟩
theorem QBd(h:¬(1<=s.length/\s.length<=8/\s≠[46]/\s≠[46,46])):Zt s=false:=by rw[Zt,decide_eq_false h];rfl
theorem QFF(h1:1<=s.length)(h2:s.length<=8)(h3:¬s=[46])(h4:¬s=[46,46]):Zt s=s.all ZP:=by rw[Zt,decide_eq_true ⟨h1,h2,h3,h4⟩];rfl
theorem QDn(s:List UInt8):FnC Tryz.prog 171 [.d (.st s)] (.d (.bl (Zt s))):=by
  refine QJ QUf ?_;(repeat' (conv=>whnf);first|refine QA ?_|intro x hx hu|intro h|apply sS);all_goals first
  |exact ZW (QBd om).symm
  |exact ZW (QBd (λhh=>hh.2.2.1 (by assumption))).symm
  |exact ZW (QBd (λhh=>hh.2.2.2 (by assumption))).symm
  |skip
  rename_i h1 h2 h3;rw[QFF om om h3 h];conv=>whnf
  refine QT QB (λk:Nat=>k<=s.length/\(s.take k).all ZP=true) (λk=>⟨[(0,.d (.st s)),(3,.d (.it .i64 k))],[],0⟩) (λk=>s.length-k) 0 ⟨z7 _,rfl⟩ ⟨rr,trivial,rfl⟩ ?_;intro k ⟨hk,ha⟩;(repeat' (conv=>whnf);first|refine QA ?_|intro x hx hu|intro h|apply sS);all_goals first
  |exact ZW (QMQ hx (QOs om)).symm
  |(refine again (k+1) ⟨by omega,by rw[QLY hx,ha,QOr om];rfl⟩ (by dsimp only;omega) rr trivial rfl)
  | (obtain rfl : k = s.length := by omega
     rw[x7]at ha;exact ZW ha.symm)
def JE:List UInt8:=[97,98,99,100,101,102,103,104,105,106,107,108,109,110,111,112,113,114,115,116,117,118,119,120,121,122,48,49,50,51,52,53,54,55,56,57,46,95]
def JY(l:List UInt8):List D:=(List.range 256).map λj=> .bl (l.any λc=>c.toNat==j)
theorem Xh(l:List D)(m:Nat):(l.map AV.d).all (AV.lt1 m)=true:=by
 rw[ze];intro x hx;obtain⟨b,_,rfl⟩:=yf.1 hx;rfl
theorem QMR:((JY l).map AV.d).take c.toNat++[AV.d (.bl true)]++((JY l).map AV.d).drop (c.toNat+1)=(JY (l++[c])).map AV.d:=by
 have hc:=c.toNat_lt;apply vg
 ·simp [JY];omega
 ·intro i h1 h2;simp only[JY,zb,xj]at h2;rcases Nat.lt_trichotomy i c.toNat with h|h|h
  ·rw [zx (by simp[JY];omega),zx (by simp[JY];omega)];simp[JY,show¬c.toNat=i by omega]
  ·subst h;rw[zx (by simp[JY];omega),yb (by simp[JY];omega)];simp[JY]
  ·rw [yb (by simp[JY];omega)];simp[JY,show¬c.toNat=i by omega,show c.toNat+1+(i-(min c.toNat 256+1))=i by omega]
theorem QI0:FnC Tryz.prog 208 [.d (.st JE)] (.tup [.dg 256 (JY JE),.d (.bl true)]):=by
 refine QJ QUq ?_;(repeat' (conv=>whnf);first|refine QA ?_|intro x hx hu|intro h|apply sS);conv=>whnf
 refine QT QB (λk:Nat=>k<=JE.length) (λk=>⟨[(0,.d (.st JE)),(2,.ptr 0 0),(4,.d (.it .i64 k))],[(0,.cells 256 ((JY (JE.take k)).map .d))],1⟩) (λk=>JE.length-k) 0 (z7 _) ⟨rr,⟨?_,trivial⟩,?_⟩ ?_
 ·refine Qt rfl (by kernel_rfl)
 ·simp only[S.ok,y9,xr,Ob.lt,Xh];rfl
 have hlow:∀c∈JE,c.toNat<128:=by decide
 have hl38:JE.length=38:=rfl;intro k hk;(repeat' (conv=>whnf);first|refine QA ?_|intro x hx hu|intro h|apply sS)
 ·have:=hlow x (ya hx);omega
 ·refine again (k+1) om (by dsimp only;omega) rr (ai (Qt rfl ?_) trivial) ?_
  ·rw [QW hx,<-QMR];simp only[y5,kj,qp];rfl
  ·simp only[S.ok,y9,xr,Ob.lt,Xh];rfl
 ·obtain rfl:k=JE.length:=by omega
  (repeat' (conv=>whnf);first|with_reducible refine AtA.mk' ?_|refine QA ?_|intro x hx hu|intro h|apply sS);rfl
def QFG(s:List UInt8):List UInt8:=(s.reverse.dropWhile ZP).reverse
def QBe(s:List UInt8):List UInt8:=(QFG s).dropWhile ZP
theorem QOt(c:UInt8):((JY JE).map AV.d).getD c.toNat .junk= .d (.bl (ZP c)):=by
 have:∀n,n<256->(JE.any λc=>c.toNat==n)=decide (97<=n/\n<=122\/48<=n/\n<=57\/n=46\/n=95):=by decide+kernel
 have hc:=c.toNat_lt;rw[List.getD,zj (by simp[JY];omega)];simp only[JY,z1,x5,kp,ZP];rw[this _ om]
theorem QI1{tab:List D}(ht:tab=JY JE)(off:Nat)(c:UInt8)(h:off=c.toNat):ldA ⟨.bool,1,1,[.bl false],some [.bl false],[]⟩ off (List.map AV.d tab)= .d (.bl (ZP c)):=by
 subst h ht;have:=QOt c;simpa [ldA,Kd.agg]using this
theorem QOu(h:s=[]++t)(ht:t.all ZP=true):QFG s=[]:=by
 subst h;have key:∀l:List UInt8,l.all ZP=true->l.dropWhile ZP=[]:=by
  intro l;induction l with
  |nil=>intro _;rfl
  |cons a l ih=>
   intro h;rw[y9,zf]at h;rw[qv h.1,ih h.2]
 rw[QFG,List.reverse_eq_nil_iff];exact key _ (by rw[jg];simpa using ht)
theorem QOv{r:List UInt8}(h:s=(r++[c])++t)(ht:t.all ZP=true)(hc:ZP c=false):QFG s=r++[c]:=by
 subst h;have e:((r++[c])++t).reverse=t.reverse++c::r.reverse:=by simp
 rw[QFG,e,jd (λx hx=>ze.1 ht x (List.mem_reverse.1 hx)),jl (by simp[hc])];simp
theorem QDo{r:List UInt8}(h:r[r.length-1]? =some x):r=r.take (r.length-1)++[x]:=by
 have hl:r.length-1<r.length:=by
  obtain⟨hk,_⟩:=z6.1 h;exact hk
 rw[<-QW h,show r.length-1+1=r.length by omega,x7]
theorem QCK(h:u[(0:Int).toNat]? =some x):u=[x]++u.drop 1:=by
 cases u with
 |nil=>cases h
 |cons a u=>obtain rfl:a=x:=za h;rfl
theorem QKE{r:List UInt8}(h:r=t++u)(ht:t.all ZP=true)(hx:u[(0:Int).toNat]? =some x)(hc:ZP x=false):r.dropWhile ZP=u:=by
 rw[h,jd (λx hx=>ze.1 ht x hx),QCK hx];exact jl (by simp[hc])
theorem QKF{r:List UInt8}(h:r=t++u)(ht:t.all ZP=true)(hu:u.length=0):r.dropWhile ZP=u:=by
 obtain rfl:=yx.1 hu;rw[h,jd (λx hx=>ze.1 ht x hx)];rfl
theorem QOw(s:List UInt8)(h0:s≠[])(hs:s.length<=1000000):FnC Tryz.prog 164 [.d (.st s),.d (.st JE)] (.d (.st (QBe s))):=by
 refine QJ QUb ?_;obtain⟨tab,ht⟩:∃t,t=JY JE:=⟨_,rfl⟩;have hm:=QI0;rw[<-ht]at hm;(repeat' (conv=>whnf);first|with_reducible refine CallE.con ⟨_,hm,?_⟩|refine cI QUr ?_|refine QA ?_|intro x hx hu|intro h|apply sS);refine QCB QB (λr:List UInt8=>∃t,s=r++t/\t.all ZP=true) (λr=>[(0,.d (.st r)),(1,.ptr 0 0)]) (λ_=>[(0,.cells 256 (tab.map .d))]) [0] (λr=>r.length) s ⟨[],by simp,rfl⟩ rr ⟨Qt rfl (by rw[show List.drop (0+256) _=[]from rfl,y4];rfl),QCA _ _⟩ rfl (by simp only[y9,xr,Ob.lt,Xh];rfl) ?_;intro r ⟨t,hr,ha⟩;have hrl:r.length+t.length=s.length:=by rw[hr,zu]
 (repeat' (conv=>whnf);first|refine cI QRA ?_|with_reducible refine AtA.eq (by with_unfolding_all exact QI1 ht _ x (by first|omega|(dsimp only;omega)|simp)) ?_|refine QA ?_|intro x hx hu|intro h|apply sS)
 ·rename_i hx0;have hx':r[r.length-1]? =some x:=by rw[show r.length-1=((r.length:Int)-1).toNat by omega];exact hx
  have hsp:=QDo hx';refine QJw (r.take (r.length-1)) ⟨[x]++t,by rw[<-x4,<-hsp];exact hr,by rw[vn,ha,wh];simpa using h⟩ (by dsimp only;rw[zy];omega) (ai (QAY ?_) rr) (ai rfl ?_) rfl (by simp only[y9,xr,Ob.lt,Xh];rfl)
  ·rw [show((r.length:Int)-1).toNat=r.length-1 by omega]
  ·(repeat (first|exact trivial|refine ai rfl ?_))
 ·have hx':r[r.length-1]? =some x:=by rw[show r.length-1=((r.length:Int)-1).toNat by omega];exact hx
  have hsp:=QDo hx';have h2:=hr;rw[hsp]at h2;have hw:QBe s=r.dropWhile ZP:=by rw[QBe,QOv h2 ha (by simpa using h),<-hsp]
  (repeat' (conv=>whnf);first|refine cI QS3 ?_|refine QA ?_|intro x hx hu|intro h|apply sS);refine QCB QB (λu:List UInt8=>∃t,r=t++u/\t.all ZP=true) (λu=>[(0,.d (.st u)),(1,.ptr 0 0)]) (λ_=>[(0,.cells 256 (tab.map .d))]) [0] (λu=>u.length) r ⟨[],rfl,rfl⟩ rr ⟨rfl,QCA _ _⟩ rfl (by simp only[y9,xr,Ob.lt,Xh];rfl) ?_;intro u ⟨t',hu',ha'⟩;(repeat' (conv=>whnf);first|refine cI QRA ?_|with_reducible refine AtA.eq (by with_unfolding_all exact QI1 ht _ x (by first|omega|(dsimp only;omega)|simp)) ?_|refine QA ?_|intro x hx hu|intro h|apply sS)
  ·refine QJw (u.drop 1) ⟨t'++[x],?_,?_⟩ (by dsimp only;rw[ym];omega) (ai (QAY ?_) rr) (ai rfl ?_) rfl (by simp only[y9,xr,Ob.lt,Xh];rfl)
   ·rw [x4,hu'];congr 1;exact QCK hx
   ·rw [vn,ha',wz];simpa using h
   ·simp
   ·(repeat (first|exact trivial|refine ai rfl ?_))
  ·exact QAY (hw.trans (QKE hu' ha' hx (by simpa using h))).symm
  ·exact QAY (hw.trans (QKF hu' ha' om)).symm
 ·have hw:QBe s=r.dropWhile ZP:=by
   have hr0:r=[]:=yx.1 om;rw[hr0]at hr;rw[QBe,QOu hr ha,hr0]
  (repeat' (conv=>whnf);first|refine cI QS3 ?_|refine QA ?_|intro x hx hu|intro h|apply sS);refine QCB QB (λu:List UInt8=>∃t,r=t++u/\t.all ZP=true) (λu=>[(0,.d (.st u)),(1,.ptr 0 0)]) (λ_=>[(0,.cells 256 (tab.map .d))]) [0] (λu=>u.length) r ⟨[],rfl,rfl⟩ rr ⟨rfl,QCA _ _⟩ rfl (by simp only[y9,xr,Ob.lt,Xh];rfl) ?_;intro u ⟨t',hu',ha'⟩;(repeat' (conv=>whnf);first|refine cI QRA ?_|with_reducible refine AtA.eq (by with_unfolding_all exact QI1 ht _ x (by first|omega|(dsimp only;omega)|simp)) ?_|refine QA ?_|intro x hx hu|intro h|apply sS)
  ·refine QJw (u.drop 1) ⟨t'++[x],?_,?_⟩ (by dsimp only;rw[ym];omega) (ai (QAY ?_) rr) (ai rfl ?_) rfl (by simp only[y9,xr,Ob.lt,Xh];rfl)
   ·rw [x4,hu'];congr 1;exact QCK hx
   ·rw [vn,ha',wz];simpa using h
   ·simp
   ·(repeat (first|exact trivial|refine ai rfl ?_))
  ·exact QAY (hw.trans (QKE hu' ha' hx (by simpa using h))).symm
  ·exact QAY (hw.trans (QKF hu' ha' om)).symm
end Go.Proofs.YtikgcbioagmkkaaGreatDoor
namespace Go.Proofs
open Go.Shelf
def Tryz.lays156_ren:Go.Shelf.Ren:=⟨fun|156=>261|165=>279|166=>280|169=>281|240=>296|241=>297|276=>302|277=>303|n=>n,fun|31=>94|9=>9|3=>3|4=>4|0=>0|20=>20|72=>318|76=>235|70=>316|37=>30|75=>234|127=>337|164=>340|5=>5|80=>321|n=>n,fun|n=>n⟩
theorem Tryz.lays156:Go.Proofs.Lays.n156 Tryz.prog Tryz.lays156_ren:= {
 mixed:=by kernel_rfl
 f156:=Tryz.func261.trans (congrArg some (by kernel_rfl))
 f165:=Tryz.func279.trans (congrArg some (by kernel_rfl))
 f166:=Tryz.func280.trans (congrArg some (by kernel_rfl))
 f169:=Tryz.func281.trans (congrArg some (by kernel_rfl))
 f240:=Tryz.func296.trans (congrArg some (by kernel_rfl))
 f241:=Tryz.func297.trans (congrArg some (by kernel_rfl))
 f276:=Tryz.func302.trans (congrArg some (by kernel_rfl))
 f277:=Tryz.func303.trans (congrArg some (by kernel_rfl))
 t0:=Tryz.underlying0
 a0:=Tryz.isAgg0
 z0:=Tryz.sizeOf0
 v0:=Tryz.zeroValue0
 t3:=Tryz.underlying3
 a3:=Tryz.isAgg3
 z3:=Tryz.sizeOf3
 v3:=Tryz.zeroValue3
 t4:=Tryz.underlying4
 a4:=Tryz.isAgg4
 z4:=Tryz.sizeOf4
 v4:=Tryz.zeroValue4
 t9:=Tryz.underlying9
 a9:=Tryz.isAgg9
 z9:=Tryz.sizeOf9
 v9:=Tryz.zeroValue9
 t20:=Tryz.underlying20
 a20:=Tryz.isAgg20
 z20:=Tryz.sizeOf20
 v20:=Tryz.zeroValue20
 t31:=Tryz.underlying94
 a31:=Tryz.isAgg94
 z31:=Tryz.sizeOf94
 v31:=Tryz.zeroValue94
 t37:=Tryz.underlying30
 a37:=Tryz.isAgg30
 z37:=Tryz.sizeOf30
 v37:=Tryz.zeroValue30
 t70:=Tryz.underlying316
 a70:=Tryz.isAgg316
 z70:=Tryz.sizeOf316
 v70:=Tryz.zeroValue316
 t72:=Tryz.underlying318
 a72:=Tryz.isAgg318
 z72:=Tryz.sizeOf318
 v72:=Tryz.zeroValue318
 t75:=Tryz.underlying234
 a75:=Tryz.isAgg234
 z75:=Tryz.sizeOf234
 v75:=Tryz.zeroValue234
 t76:=Tryz.underlying235
 a76:=Tryz.isAgg235
 z76:=Tryz.sizeOf235
 v76:=Tryz.zeroValue235
 t127:=Tryz.underlying337
 a127:=Tryz.isAgg337
 z127:=Tryz.sizeOf337
 v127:=Tryz.zeroValue337
 t164:=Tryz.underlying340
 a164:=Tryz.isAgg340
 z164:=Tryz.sizeOf340
 v164:=Tryz.zeroValue340}
theorem Tryz.Builder_Extra_156:Builder.Extra Tryz.prog Tryz.lays156_ren:= {
 sizeBuilder:=by kernel_rfl
 liesBuilder:=by kernel_rfl
 t5:=Tryz.underlying5
 a5:=Tryz.isAgg5
 z5:=Tryz.sizeOf5
 v5:=Tryz.zeroValue5
 infoByte:=by kernel_rfl
 cellsByte:=by kernel_rfl
 sizeByte:=by kernel_rfl
 neB5:=by decide}
open Go.RowKit in
theorem Tryz.strings_Join_none(a:Option Addr)(c:Nat)(sep:ByteArray)(w:World):
  Calls Tryz.prog 261 #[.slice a 0 c,.string sep] w λe w'=>e= .returned (.string ⟨#[]⟩)/\w'=w:=Any.strings_Join_none Tryz.lays156 Tryz.Builder_Extra_156 a c sep w
open Go.RowKit in
theorem Tryz.strings_Join(bk o c:Nat)(xs:List ByteArray)(sep:ByteArray)(w:World)(hcells:∀(j:Nat) x,xs[j]? =some x->w.cell? ⟨bk,o+j,none⟩=some (.string x))(hbk:bk<w.heap.size)(hN:xs.length<=140737488355328)(hcap:xs.length<=c)(hlen:(Lib.join (xs.map (·.data.toList)) sep.data.toList).length<=140737488355328):
  Calls Tryz.prog 261 #[.slice (some ⟨bk,o,none⟩) xs.length c,.string sep] w λe w'=>e= .returned (.string ⟨(Lib.join (xs.map (·.data.toList)) sep.data.toList).toArray⟩)/\Below w.heap.size w w':=Any.strings_Join Tryz.lays156 Tryz.Builder_Extra_156 bk o c xs sep w hcells hbk hN hcap hlen
def Tryz.lays143_ren:Go.Shelf.Ren:=⟨fun|143=>205|219=>234|217=>264|225=>265|224=>266|267=>267|266=>282|314=>283|n=>n,fun|9=>9|3=>3|4=>4|5=>5|46=>277|146=>326|51=>300|n=>n,fun|1=>1|n=>n⟩
theorem Tryz.lays143:Go.Proofs.Lays.n143 Tryz.prog Tryz.lays143_ren:= {
 mixed:=by kernel_rfl
 f143:=Tryz.func205.trans (congrArg some (by kernel_rfl))
 f217:=Tryz.func264.trans (congrArg some (by kernel_rfl))
 f219:=Tryz.func234.trans (congrArg some (by kernel_rfl))
 f224:=Tryz.func266.trans (congrArg some (by kernel_rfl))
 f225:=Tryz.func265.trans (congrArg some (by kernel_rfl))
 f266:=Tryz.func282.trans (congrArg some (by kernel_rfl))
 f267:=Tryz.func267.trans (congrArg some (by kernel_rfl))
 f314:=Tryz.func283.trans (congrArg some (by kernel_rfl))
 t3:=Tryz.underlying3
 a3:=Tryz.isAgg3
 z3:=Tryz.sizeOf3
 v3:=Tryz.zeroValue3
 t4:=Tryz.underlying4
 a4:=Tryz.isAgg4
 z4:=Tryz.sizeOf4
 v4:=Tryz.zeroValue4
 t5:=Tryz.underlying5
 a5:=Tryz.isAgg5
 z5:=Tryz.sizeOf5
 v5:=Tryz.zeroValue5
 t9:=Tryz.underlying9
 a9:=Tryz.isAgg9
 z9:=Tryz.sizeOf9
 v9:=Tryz.zeroValue9
 t46:=Tryz.underlying277
 a46:=Tryz.isAgg277
 z46:=Tryz.sizeOf277
 v46:=Tryz.zeroValue277
 t51:=Tryz.underlying300
 a51:=Tryz.isAgg300
 z51:=Tryz.sizeOf300
 v51:=Tryz.zeroValue300
 t146:=Tryz.underlying326
 a146:=Tryz.isAgg326
 z146:=Tryz.sizeOf326
 v146:=Tryz.zeroValue326
 g1:=by kernel_rfl}
open Go.RowKit Go.Lib in
theorem Tryz.strings_Index_one(s:ByteArray)(c:UInt8)(w:World):
  Calls Tryz.prog 205 #[.string s,.string ⟨#[c]⟩] w λe w'=>e= .returned (.int .i64 (Lib.indexByte s.data.toList c))/\w'=w:=Any.strings_Index_one Tryz.lays143 s c w
def Tryz.lays138_ren:Go.Shelf.Ren:=⟨fun|138=>204|195=>231|218=>233|143=>205|219=>234|217=>264|225=>265|224=>266|267=>267|266=>282|314=>283|n=>n,fun|9=>9|3=>3|4=>4|5=>5|0=>0|46=>277|146=>326|51=>300|n=>n,fun|1=>1|n=>n⟩
theorem Tryz.lays138:Go.Proofs.Lays.n138 Tryz.prog Tryz.lays138_ren:= {
 mixed:=by kernel_rfl
 f138:=Tryz.func204.trans (congrArg some (by kernel_rfl))
 f143:=Tryz.func205.trans (congrArg some (by kernel_rfl))
 f195:=Tryz.func231.trans (congrArg some (by kernel_rfl))
 f217:=Tryz.func264.trans (congrArg some (by kernel_rfl))
 f218:=Tryz.func233.trans (congrArg some (by kernel_rfl))
 f219:=Tryz.func234.trans (congrArg some (by kernel_rfl))
 f224:=Tryz.func266.trans (congrArg some (by kernel_rfl))
 f225:=Tryz.func265.trans (congrArg some (by kernel_rfl))
 f266:=Tryz.func282.trans (congrArg some (by kernel_rfl))
 f267:=Tryz.func267.trans (congrArg some (by kernel_rfl))
 f314:=Tryz.func283.trans (congrArg some (by kernel_rfl))
 t0:=Tryz.underlying0
 a0:=Tryz.isAgg0
 z0:=Tryz.sizeOf0
 v0:=Tryz.zeroValue0
 t3:=Tryz.underlying3
 a3:=Tryz.isAgg3
 z3:=Tryz.sizeOf3
 v3:=Tryz.zeroValue3
 t4:=Tryz.underlying4
 a4:=Tryz.isAgg4
 z4:=Tryz.sizeOf4
 v4:=Tryz.zeroValue4
 t5:=Tryz.underlying5
 a5:=Tryz.isAgg5
 z5:=Tryz.sizeOf5
 v5:=Tryz.zeroValue5
 t9:=Tryz.underlying9
 a9:=Tryz.isAgg9
 z9:=Tryz.sizeOf9
 v9:=Tryz.zeroValue9
 t46:=Tryz.underlying277
 a46:=Tryz.isAgg277
 z46:=Tryz.sizeOf277
 v46:=Tryz.zeroValue277
 t51:=Tryz.underlying300
 a51:=Tryz.isAgg300
 z51:=Tryz.sizeOf300
 v51:=Tryz.zeroValue300
 t146:=Tryz.underlying326
 a146:=Tryz.isAgg326
 z146:=Tryz.sizeOf326
 v146:=Tryz.zeroValue326
 g1:=by kernel_rfl}
open Go.RowKit Go.Lib in
theorem Tryz.strings_Count_one(s:ByteArray)(c:UInt8)(w:World):
  Calls Tryz.prog 204 #[.string s,.string ⟨#[c]⟩] w λe w'=>e= .returned (.int .i64 (Lib.countByte s.data.toList c))/\w'=w:=Any.strings_Count_one Tryz.lays138 s c w
def Tryz.lays189_ren:Go.Shelf.Ren:=⟨fun|189=>259|125=>223|257=>278|128=>251|129=>252|294=>287|295=>288|296=>289|297=>290|298=>291|299=>292|216=>293|300=>294|301=>295|328=>298|329=>272|330=>273|331=>299|332=>300|215=>301|343=>304|n=>n,fun|28=>31|3=>3|46=>277|0=>0|51=>300|53=>302|4=>4|183=>294|182=>293|131=>124|5=>5|9=>9|218=>308|222=>312|228=>329|229=>330|n=>n,fun|n=>n⟩
theorem Tryz.lays189:Go.Proofs.Lays.n189 Tryz.prog Tryz.lays189_ren:= {
 mixed:=by kernel_rfl
 f125:=Tryz.func223.trans (congrArg some (by kernel_rfl))
 f128:=Tryz.func251.trans (congrArg some (by kernel_rfl))
 f129:=Tryz.func252.trans (congrArg some (by kernel_rfl))
 f189:=Tryz.func259.trans (congrArg some (by kernel_rfl))
 f215:=Tryz.func301.trans (congrArg some (by kernel_rfl))
 f216:=Tryz.func293.trans (congrArg some (by kernel_rfl))
 f257:=Tryz.func278.trans (congrArg some (by kernel_rfl))
 f294:=Tryz.func287.trans (congrArg some (by kernel_rfl))
 f295:=Tryz.func288.trans (congrArg some (by kernel_rfl))
 f296:=Tryz.func289.trans (congrArg some (by kernel_rfl))
 f297:=Tryz.func290.trans (congrArg some (by kernel_rfl))
 f298:=Tryz.func291.trans (congrArg some (by kernel_rfl))
 f299:=Tryz.func292.trans (congrArg some (by kernel_rfl))
 f300:=Tryz.func294.trans (congrArg some (by kernel_rfl))
 f301:=Tryz.func295.trans (congrArg some (by kernel_rfl))
 f328:=Tryz.func298.trans (congrArg some (by kernel_rfl))
 f329:=Tryz.func272.trans (congrArg some (by kernel_rfl))
 f330:=Tryz.func273.trans (congrArg some (by kernel_rfl))
 f331:=Tryz.func299.trans (congrArg some (by kernel_rfl))
 f332:=Tryz.func300.trans (congrArg some (by kernel_rfl))
 f343:=Tryz.func304.trans (congrArg some (by kernel_rfl))
 t0:=Tryz.underlying0
 a0:=Tryz.isAgg0
 z0:=Tryz.sizeOf0
 v0:=Tryz.zeroValue0
 t3:=Tryz.underlying3
 a3:=Tryz.isAgg3
 z3:=Tryz.sizeOf3
 v3:=Tryz.zeroValue3
 t4:=Tryz.underlying4
 a4:=Tryz.isAgg4
 z4:=Tryz.sizeOf4
 v4:=Tryz.zeroValue4
 t5:=Tryz.underlying5
 a5:=Tryz.isAgg5
 z5:=Tryz.sizeOf5
 v5:=Tryz.zeroValue5
 t9:=Tryz.underlying9
 a9:=Tryz.isAgg9
 z9:=Tryz.sizeOf9
 v9:=Tryz.zeroValue9
 t28:=Tryz.underlying31
 a28:=Tryz.isAgg31
 z28:=Tryz.sizeOf31
 v28:=Tryz.zeroValue31
 t46:=Tryz.underlying277
 a46:=Tryz.isAgg277
 z46:=Tryz.sizeOf277
 v46:=Tryz.zeroValue277
 t51:=Tryz.underlying300
 a51:=Tryz.isAgg300
 z51:=Tryz.sizeOf300
 v51:=Tryz.zeroValue300
 t53:=Tryz.underlying302
 a53:=Tryz.isAgg302
 z53:=Tryz.sizeOf302
 v53:=Tryz.zeroValue302
 t131:=Tryz.underlying124
 a131:=Tryz.isAgg124
 z131:=Tryz.sizeOf124
 v131:=Tryz.zeroValue124
 t182:=Tryz.underlying293
 a182:=Tryz.isAgg293
 z182:=Tryz.sizeOf293
 v182:=Tryz.zeroValue293
 t183:=Tryz.underlying294
 a183:=Tryz.isAgg294
 z183:=Tryz.sizeOf294
 v183:=Tryz.zeroValue294
 t218:=Tryz.underlying308
 a218:=Tryz.isAgg308
 z218:=Tryz.sizeOf308
 v218:=Tryz.zeroValue308
 t222:=Tryz.underlying312
 a222:=Tryz.isAgg312
 z222:=Tryz.sizeOf312
 v222:=Tryz.zeroValue312
 t228:=Tryz.underlying329
 a228:=Tryz.isAgg329
 z228:=Tryz.sizeOf329
 v228:=Tryz.zeroValue329
 t229:=Tryz.underlying330
 a229:=Tryz.isAgg330
 z229:=Tryz.sizeOf330
 v229:=Tryz.zeroValue330}
open Go.Sort Go.RowKit in
theorem Tryz.slices_Sort_int(blk off cap:Nat)(zs:List Int)(w:World)(hH:Holds (Value.int .i64) w blk off zs.toArray)(hblk:blk<w.heap.size)(hsz:zs.length<4611686018427387904):
  Calls Tryz.prog 259 #[.slice (some ⟨blk,off,none⟩) zs.length cap] w λe w'=>
   e= .returned (.tuple #[])/\∃n os,w'=grow (putRow (Value.int .i64) (Sort.ahead w n) blk off (zs.mergeSort λx y=>decide (x<=y)).toArray) os:=Any.slices_Sort_int Tryz.lays189 blk off cap zs w hH hblk hsz
def Tryz.lays190_ren:Go.Shelf.Ren:=⟨fun|190=>174|125=>223|258=>222|128=>251|129=>252|302=>242|303=>243|304=>244|305=>245|306=>246|307=>247|308=>248|309=>249|310=>250|333=>271|329=>272|330=>273|334=>274|335=>275|336=>276|344=>286|n=>n,fun|31=>94|9=>9|3=>3|46=>277|0=>0|51=>300|53=>302|4=>4|183=>294|182=>293|131=>124|5=>5|218=>308|222=>312|228=>329|229=>330|n=>n,fun|n=>n⟩
theorem Tryz.lays190:Go.Proofs.Lays.n190 Tryz.prog Tryz.lays190_ren:= {
 mixed:=by kernel_rfl
 f125:=Tryz.func223.trans (congrArg some (by kernel_rfl))
 f128:=Tryz.func251.trans (congrArg some (by kernel_rfl))
 f129:=Tryz.func252.trans (congrArg some (by kernel_rfl))
 f190:=Tryz.func174.trans (congrArg some (by kernel_rfl))
 f258:=Tryz.func222.trans (congrArg some (by kernel_rfl))
 f302:=Tryz.func242.trans (congrArg some (by kernel_rfl))
 f303:=Tryz.func243.trans (congrArg some (by kernel_rfl))
 f304:=Tryz.func244.trans (congrArg some (by kernel_rfl))
 f305:=Tryz.func245.trans (congrArg some (by kernel_rfl))
 f306:=Tryz.func246.trans (congrArg some (by kernel_rfl))
 f307:=Tryz.func247.trans (congrArg some (by kernel_rfl))
 f308:=Tryz.func248.trans (congrArg some (by kernel_rfl))
 f309:=Tryz.func249.trans (congrArg some (by kernel_rfl))
 f310:=Tryz.func250.trans (congrArg some (by kernel_rfl))
 f329:=Tryz.func272.trans (congrArg some (by kernel_rfl))
 f330:=Tryz.func273.trans (congrArg some (by kernel_rfl))
 f333:=Tryz.func271.trans (congrArg some (by kernel_rfl))
 f334:=Tryz.func274.trans (congrArg some (by kernel_rfl))
 f335:=Tryz.func275.trans (congrArg some (by kernel_rfl))
 f336:=Tryz.func276.trans (congrArg some (by kernel_rfl))
 f344:=Tryz.func286.trans (congrArg some (by kernel_rfl))
 t0:=Tryz.underlying0
 a0:=Tryz.isAgg0
 z0:=Tryz.sizeOf0
 v0:=Tryz.zeroValue0
 t3:=Tryz.underlying3
 a3:=Tryz.isAgg3
 z3:=Tryz.sizeOf3
 v3:=Tryz.zeroValue3
 t4:=Tryz.underlying4
 a4:=Tryz.isAgg4
 z4:=Tryz.sizeOf4
 v4:=Tryz.zeroValue4
 t5:=Tryz.underlying5
 a5:=Tryz.isAgg5
 z5:=Tryz.sizeOf5
 v5:=Tryz.zeroValue5
 t9:=Tryz.underlying9
 a9:=Tryz.isAgg9
 z9:=Tryz.sizeOf9
 v9:=Tryz.zeroValue9
 t31:=Tryz.underlying94
 a31:=Tryz.isAgg94
 z31:=Tryz.sizeOf94
 v31:=Tryz.zeroValue94
 t46:=Tryz.underlying277
 a46:=Tryz.isAgg277
 z46:=Tryz.sizeOf277
 v46:=Tryz.zeroValue277
 t51:=Tryz.underlying300
 a51:=Tryz.isAgg300
 z51:=Tryz.sizeOf300
 v51:=Tryz.zeroValue300
 t53:=Tryz.underlying302
 a53:=Tryz.isAgg302
 z53:=Tryz.sizeOf302
 v53:=Tryz.zeroValue302
 t131:=Tryz.underlying124
 a131:=Tryz.isAgg124
 z131:=Tryz.sizeOf124
 v131:=Tryz.zeroValue124
 t182:=Tryz.underlying293
 a182:=Tryz.isAgg293
 z182:=Tryz.sizeOf293
 v182:=Tryz.zeroValue293
 t183:=Tryz.underlying294
 a183:=Tryz.isAgg294
 z183:=Tryz.sizeOf294
 v183:=Tryz.zeroValue294
 t218:=Tryz.underlying308
 a218:=Tryz.isAgg308
 z218:=Tryz.sizeOf308
 v218:=Tryz.zeroValue308
 t222:=Tryz.underlying312
 a222:=Tryz.isAgg312
 z222:=Tryz.sizeOf312
 v222:=Tryz.zeroValue312
 t228:=Tryz.underlying329
 a228:=Tryz.isAgg329
 z228:=Tryz.sizeOf329
 v228:=Tryz.zeroValue329
 t229:=Tryz.underlying330
 a229:=Tryz.isAgg330
 z229:=Tryz.sizeOf330
 v229:=Tryz.zeroValue330}
open Go.Sort Go.RowKit in
theorem Tryz.slices_Sort_string(blk off cap:Nat)(ss:List (List UInt8))(w:World)(hH:Holds encStr w blk off ss.toArray)(hblk:blk<w.heap.size)(hsz:ss.length<4611686018427387904):
  Calls Tryz.prog 174 #[.slice (some ⟨blk,off,none⟩) ss.length cap] w λe w'=>
   e= .returned (.tuple #[])/\∃n os,w'=grow (putRow encStr (Sort.ahead w n) blk off (ss.mergeSort λx y=>decide (x<=y)).toArray) os:=Any.slices_Sort_string Tryz.lays190 blk off cap ss w hH hblk hsz
def Tryz.laysNm220_ren:Go.Shelf.Ren:=⟨fun|20=>260|n=>n,fun|22=>31|3=>3|4=>4|0=>0|n=>n,fun|n=>n⟩
theorem Tryz.laysNm220:Go.Proofs.Lays2.n20 Tryz.prog Tryz.laysNm220_ren:= {
 mixed:=by kernel_rfl
 f20:=Tryz.func260.trans (congrArg some (by kernel_rfl))
 t0:=Tryz.underlying0
 a0:=Tryz.isAgg0
 z0:=Tryz.sizeOf0
 v0:=Tryz.zeroValue0
 t3:=Tryz.underlying3
 a3:=Tryz.isAgg3
 z3:=Tryz.sizeOf3
 v3:=Tryz.zeroValue3
 t4:=Tryz.underlying4
 a4:=Tryz.isAgg4
 z4:=Tryz.sizeOf4
 v4:=Tryz.zeroValue4
 t22:=Tryz.underlying31
 a22:=Tryz.isAgg31
 z22:=Tryz.sizeOf31
 v22:=Tryz.zeroValue31
 i3:=by kernel_rfl}
open Go.RowKit Go.Lib Go.Sort in
theorem Tryz.slices_Compact_int(blk off cap:Nat)(zs:List Int)(w:World)(hH:Holds (Value.int .i64) w blk off zs.toArray)(hsz:zs.length<=9223372036854775807)(hcap:zs.length<=cap):
  Calls Tryz.prog 260 #[.slice (some ⟨blk,off,none⟩) zs.length cap] w λe w'=>e= .returned (.slice (some ⟨blk,off,none⟩) (Lib.compact zs).length cap)/\∃q,w'=putRow (Value.int .i64) (Sort.ahead w q) blk off (Lib.compact zs++List.replicate (zs.length-(Lib.compact zs).length) 0).toArray:=Any.slices_Compact_int Tryz.laysNm220 blk off cap zs w hH hsz hcap
def Tryz.lays194_ren:Go.Shelf.Ren:=⟨fun|194=>175|n=>n,fun|31=>94|9=>9|3=>3|4=>4|0=>0|n=>n,fun|n=>n⟩
theorem Tryz.lays194:Go.Proofs.Lays.n194 Tryz.prog Tryz.lays194_ren:= {
 mixed:=by kernel_rfl
 f194:=Tryz.func175.trans (congrArg some (by kernel_rfl))
 t0:=Tryz.underlying0
 a0:=Tryz.isAgg0
 z0:=Tryz.sizeOf0
 v0:=Tryz.zeroValue0
 t3:=Tryz.underlying3
 a3:=Tryz.isAgg3
 z3:=Tryz.sizeOf3
 v3:=Tryz.zeroValue3
 t4:=Tryz.underlying4
 a4:=Tryz.isAgg4
 z4:=Tryz.sizeOf4
 v4:=Tryz.zeroValue4
 t9:=Tryz.underlying9
 a9:=Tryz.isAgg9
 z9:=Tryz.sizeOf9
 v9:=Tryz.zeroValue9
 t31:=Tryz.underlying94
 a31:=Tryz.isAgg94
 z31:=Tryz.sizeOf94
 v31:=Tryz.zeroValue94}
open Go.RowKit Go.Lib Go.Sort in
theorem Tryz.slices_Compact_string(blk off cap:Nat)(zs:List (List UInt8))(w:World)(hH:Holds encStr w blk off zs.toArray)(hsz:zs.length<=9223372036854775807)(hcap:zs.length<=cap):
  Calls Tryz.prog 175 #[.slice (some ⟨blk,off,none⟩) zs.length cap] w λe w'=>e= .returned (.slice (some ⟨blk,off,none⟩) (Lib.compact zs).length cap)/\∃q,w'=putRow encStr (Sort.ahead w q) blk off (Lib.compact zs++List.replicate (zs.length-(Lib.compact zs).length) []).toArray:=Any.slices_Compact_string Tryz.lays194 blk off cap zs w hH hsz hcap
open Go.RowKit Go.Lib Go.Sort in
theorem Tryz.slices_Compact_string_empty(a:Option Addr)(cap:Nat)(w:World):
  Calls Tryz.prog 175 #[.slice a 0 cap] w λe w'=>e= .returned (.slice a 0 cap)/\w'=w:=Any.slices_Compact_string_empty Tryz.lays194 a cap w
open Go.RowKit Go.Sort in
theorem Tryz.slices_Sort_string_none(p:Option Addr)(cap:Nat)(w:World):
  Calls Tryz.prog 174 #[.slice p 0 cap] w λe w'=>e= .returned (.tuple #[])/\w'=w:=Any.slices_Sort_string_none Tryz.lays190 p cap w
end Go.Proofs
namespace Go.Proofs.YtikgcbioagmkkaaGreatDoor
open Go.Sy
def stL(b:List UInt8):List D:=[.st b]
variable {vs:Array Value}
theorem QTG(h:vs.size=2):vs= #[vs.getD 0 undef,vs.getD 1 undef]:=by
 apply Array.ext
 ·simpa using h
 ·intro i h1 h2;have:i=0\/i=1:=by simp at h2;omega
  rcases this with rfl|rfl<;>simp[Array.getD,h]
theorem QOx(xs:List (List UInt8))(sep:List UInt8)(hn:xs.length<=1000000)(hl:(Lib.join xs sep).length<=140737488355328):FnC Tryz.prog 261 [.d (.fs 1 (xs.map stL)),.d (.st sep)] (.d (.st (Lib.join xs sep))):=by
 refine⟨rfl,λg w vs hfz _ hsz hav=> .inl ⟨Tryz.call261 _ _,?_⟩⟩;have ha:=hav 0 (by simp);have hb:=hav 1 (by simp);rw[QTG hsz];simp only[wp,uh]at ha hb;generalize vs.getD 0 undef=a at ha;generalize vs.getD 1 undef=b at hb;cases hb with|d _ _ hb=>?_
 cases hb with|st=>?_
 cases ha with|d _ _ ha=>?_
 generalize hes:xs.map stL=es at ha;cases ha with
 |fs0 _ ad cap=>
  have:xs=[]:=by simpa using hes
  subst this;refine(Tryz.strings_Join_none ad cap _ w).mono ?_;rintro e w' ⟨rfl,rfl⟩;exact⟨_,g,rfl,.d _ _ (.st []),λ_ _ _ h=>h,λ_ _ _ h=> .inl h,hfz,zt _,λ_ _=>rfl,rfl,rfl,rfl⟩
 |fs _ _ b off len cap f hlen hc hs hF hr=>
  by_cases h0:xs=[]
  ·subst h0;have hl0:len=0:=by rw[<-hlen,<-hes];rfl
   subst hl0;refine(Tryz.strings_Join_none _ cap _ w).mono ?_;rintro e w' ⟨rfl,rfl⟩;exact⟨_,g,rfl,.d _ _ (.st []),λ_ _ _ h=>h,λ_ _ _ h=> .inl h,hfz,zt _,λ_ _=>rfl,rfl,rfl,rfl⟩
  have hxl:xs.length=len:=by rw[<-hlen,<-hes];simp
  have hval:∀j (hj:j<xs.length),f j 0= .string ⟨xs[j].toArray⟩:=λj hj=>by
   subst hes;have hr:=hr j (by simpa using hj) 0 (by simp[stL]);simp only[z1,stL,wp]at hr;generalize f j 0=z at hr;cases hr;rfl
  have hcell:∀j (hj:j<xs.length),w.cell? ⟨b,off+j,none⟩=some (.string ⟨xs[j].toArray⟩):=λj hj=>by
   have:=hfz _ _ _ (hF j 0 om om);rw[hval j hj]at this;rw[<-this];simp
  have hpos:0<xs.length:=by
   rcases ju xs.length with h|h
   ·exact absurd (yx.1 h) h0
   ·exact h
  have hbk:b<w.heap.size:=by
   have:=hcell 0 hpos;rcases yj b w.heap.size with h'|h'
   ·exact h'
   ·simp [World.cell?,xh h']at this
  have hxs:(xs.map λx=>(⟨x.toArray⟩:ByteArray)).map (·.data.toList)=xs:=by
   rw[kq];exact List.map_id' xs
  have:=Tryz.strings_Join b off cap (xs.map λx=>(⟨x.toArray⟩:ByteArray)) ⟨sep.toArray⟩ w (λj x hj=>by
   simp only[yv,u5]at hj;obtain⟨y,hy,rfl⟩:=hj;obtain⟨hj',rfl⟩:=z6.1 hy;exact hcell j hj') hbk (by simp;omega) (by simp;omega) (by rw[hxs];simpa using hl)
  rw[hxs]at this;simp only[zb,hxl]at this;refine this.mono ?_;rintro e w' ⟨rfl,hB⟩;exact⟨_,g,rfl,.d _ _ (.st _),λ_ _ _ h=>h,λ_ _ _ h=> .inl h,λb' o v h=>by
   have hc:=hfz b' o v h;have hb':b'<w.heap.size:=by
    rcases yj b' w.heap.size with h'|h'
    ·exact h'
    ·simp [World.cell?,xh h']at hc
   rw[<-hc];simp only[World.cell?,hB.block b' hb'],hB.size,hB.block,hB.os,hB.tape,hB.output⟩
variable {s t:List UInt8}
theorem QRB{g:Gh}(hsz:vs.size=2)(hav:∀(j:Nat) (h:j<[AV.d (.st s),AV.d (.st t)].length),AVR g [AV.d (.st s),AV.d (.st t)][j] (vs.getD j undef)):vs= #[.string ⟨s.toArray⟩,.string ⟨t.toArray⟩]:=by
 have ha:=hav 0 (by simp);have hb:=hav 1 (by simp);rw[QTG hsz];simp only[wp,uh]at ha hb;generalize vs.getD 0 undef=a at ha;generalize vs.getD 1 undef=b at hb;cases hb with|d _ _ hb=>?_
 cases hb with|st=>?_
 cases ha with|d _ _ ha=>?_
 cases ha with|st=>?_
 rfl
theorem QHC{f:Nat}{k:Int}(hc:∀(vs:Array Value) (w:World),(callFunc f vs).run Tryz.prog w= .ok (.enter f vs) w)(h:∀w,Calls Tryz.prog f #[.string ⟨s.toArray⟩,.string ⟨t.toArray⟩] w λe w'=>e= .returned (.int .i64 k)/\w'=w):FnC Tryz.prog f [.d (.st s),.d (.st t)] (.d (.it .i64 k)):=by
 refine⟨rfl,λg w vs hfz _ hsz hav=> .inl ⟨hc _ _,?_⟩⟩;rw[QRB hsz hav];refine(h w).mono ?_;rintro e w' ⟨rfl,rfl⟩;exact⟨_,g,rfl,.d _ _ (.it _ _),λ_ _ _ h=>h,λ_ _ _ h=> .inl h,hfz,zt _,λ_ _=>rfl,rfl,rfl,rfl⟩
theorem J9(c:UInt8):∀(s:List UInt8),Lib.indexByte s c= -1->Q6 c s=[s]
 |[],_=>rfl
 |b::t,h=>by
  unfold Lib.indexByte at h;have hge:=Lib.indexByte_ge t c;by_cases hb:b=c
  ·obtain rfl:=hb;simp at h
  ·have hb':(b==c)=false:=beq_eq_false_iff_ne.2 hb;rw[hb']at h;simp only[yw,if_false]at h;have ht:Lib.indexByte t c= -1:=by
    by_cases h1:Lib.indexByte t c= -1
    ·exact h1
    ·have:(Lib.indexByte t c== -1)=false:=by simpa using h1
     rw[this]at h;simp only[yw,if_false]at h;omega
   simp only[Q6,if_neg hb,J9 c t ht]
theorem JF(c:UInt8):∀(s:List UInt8),0<=Lib.indexByte s c->Lib.indexByte s c<s.length/\Q6 c s=s.take (Lib.indexByte s c).toNat::Q6 c (s.drop ((Lib.indexByte s c).toNat+1))/\s.count c=1+(s.drop ((Lib.indexByte s c).toNat+1)).count c
 |[],h=>by simp[Lib.indexByte]at h
 |b::t,h=>by
  have hge:=Lib.indexByte_ge t c;by_cases hb:b=c
  ·obtain rfl:=hb;have e:Lib.indexByte (b::t) b=0:=by simp[Lib.indexByte]
   rw[e];refine⟨by simp,by simp[Q6],by simp;omega⟩
  ·have hb':(b==c)=false:=beq_eq_false_iff_ne.2 hb;have e:Lib.indexByte (b::t) c=if Lib.indexByte t c== -1 then-1 else Lib.indexByte t c+1:=by simp[Lib.indexByte,hb]
   rw[e]at h⊢;by_cases h1:Lib.indexByte t c= -1
   ·rw [h1]at h;simp at h
   ·have h2:(Lib.indexByte t c== -1)=false:=by simpa using h1
    rw[h2]at h⊢;simp only[yw,if_false]at h⊢;obtain⟨k1,k2,k3⟩:=JF c t om;have hn:(Lib.indexByte t c+1).toNat=(Lib.indexByte t c).toNat+1:=by omega
    rw[hn];refine⟨by simp;omega,?_,?_⟩
    ·simp only[Q6,if_neg hb,k2,List.take_succ_cons,jo]
    ·simp only[jo,Ww,hb',yw,if_false,x6];exact k3
theorem QCr(c:UInt8):∀(s:List UInt8),Lib.indexByte s c= -1->s.count c=0:=by
 intro s;induction s with
 |nil=>intro _;rfl
 |cons b t ih=>
  intro h;have hge:=Lib.indexByte_ge t c;by_cases hb:b=c
  ·obtain rfl:=hb;simp[Lib.indexByte]at h
  ·have e:Lib.indexByte (b::t) c=if Lib.indexByte t c== -1 then-1 else Lib.indexByte t c+1:=by simp[Lib.indexByte,hb]
   rw[e]at h;by_cases h1:Lib.indexByte t c= -1
   ·have hb':(b==c)=false:=beq_eq_false_iff_ne.2 hb;simp only[Ww,hb',yw,if_false,x6];exact ih h1
   ·have h2:(Lib.indexByte t c== -1)=false:=by simpa using h1
    rw[h2]at h;simp only[yw,if_false]at h;omega
theorem QDp(c:UInt8)(s:List UInt8):(Q6 c s).length=s.count c+1:=by
 induction s with
 |nil=>rfl
 |cons b t ih=>
  by_cases hb:b=c
  ·obtain rfl:=hb;simp[Q6,ih]
  ·have hb':(b==c)=false:=beq_eq_false_iff_ne.2 hb;simp only[Q6,if_neg hb,Ww,hb',yw,if_false,x6];rw[<-ih];cases h:Q6 c t with
   |nil=>rw[h]at ih;simp at ih
   |cons w r=>simp
theorem QMS(s:List UInt8)(c:UInt8):FnC Tryz.prog 205 [.d (.st s),.d (.st [c])] (.d (.it .i64 (Lib.indexByte s c))):=QHC Tryz.call205 λw=>Tryz.strings_Index_one ⟨s.toArray⟩ c w
theorem QMT(s:List UInt8)(c:UInt8):FnC Tryz.prog 204 [.d (.st s),.d (.st [c])] (.d (.it .i64 (Lib.countByte s c))):=QHC Tryz.call204 λw=>Tryz.strings_Count_one ⟨s.toArray⟩ c w
def stA(b:List UInt8):AV:= .d (.st b)
def gsA(c:UInt8)(n:Nat):List (List UInt8)×List UInt8->S|(x,s)=>⟨[(0,.d (.st s)),(1,.d (.st [c])),(2,.d (.it .i64 0)),(3,.d (.it .i64 n)),(9,.ms 1 1 0 (n+1) (n+1)),(10,.d (.it .i64 x.length))],[(1,.cells (n+1) (x.map stA++List.replicate (n+1-x.length) (stA [])))],2⟩
theorem QMU(n:Nat):(Zx n [D.st []]).map toA=List.replicate n (stA []):=by
 induction n with
 |zero=>rfl
 |succ n ih=>simp only[Zx,ye,ih,List.replicate_succ];rfl
theorem QRC(c:UInt8)(r:List UInt8):Lib.indexByte r c<r.length:=by
 by_cases h:0<=Lib.indexByte r c
 ·exact (JF c r h).1
 ·omega
variable {c b:UInt8}
theorem XC{r:List UInt8}(h:r.count c=0):Lib.indexByte r c= -1:=by
 by_cases h0:0<=Lib.indexByte r c
 ·have:=(JF c r h0).2.2;omega
 ·have:=Lib.indexByte_ge r c;omega
theorem QKG(x:List AV)(m:Nat)(z v:AV):(x++List.replicate m z).take x.length++[v]++(x++List.replicate m z).drop (x.length+1)=x++v::List.replicate (m-1) z:=by
 rw[List.take_left,jh,vh om,xf,x4];congr 1;simp[show x.length+1-x.length=1 by omega]
theorem QOy(x:List (List UInt8)):((x.map stL).flatten).map AV.d=x.map stA:=by
 induction x with
 |nil=>rfl
 |cons a t ih=>simp only[w8,vy,ye,ih];rfl
theorem QOz(l:List (List UInt8))(m:Nat):(l.map stA).all (AV.lt1 m)=true:=by
 rw[ze];intro x hx;obtain⟨b,_,rfl⟩:=yf.1 hx;rfl
theorem QMV(x:List (List UInt8))(r:List UInt8)(n:Nat)(hl:x.length=n):(List.drop 0 ((x.map stA++List.replicate (n+1-x.length) (stA [])).take x.length++[AV.d (.st r)]++(x.map stA++List.replicate (n+1-x.length) (stA [])).drop (x.length+1))).take (((x.length:Int)+1).toNat*1)=List.map AV.d (List.map stL (x++[r])).flatten:=by
 have:=QKG (x.map stA) (n+1-x.length) (stA []) (.d (.st r));rw[zb]at this;rw[vl,this,QOy,show n+1-x.length-1=0 by omega];rw[z8 (by rw[zu,zb];simp),ye];rfl
theorem QHD(c:UInt8)(s:List UInt8)(hs:s.length<=1000000):FnC Tryz.prog 162 [.d (.st s),.d (.st [c]),.d (.it .i64 0),.d (.it .i64 (-1))] (.d (.fs 1 ((Q6 c s).map stL))):=by
 refine QJ QUZ ?_;have hcnt:s.count c<=s.length:=List.count_le_length;have hc0:Lib.countByte s c=s.count c:=rfl;(repeat' (conv=>whnf);first|refine CallE.con ⟨_,QMT s c,?_⟩|with_reducible refine Q0.eq ((s.count c+1:Nat):Int) (by split<;>omega) ?_|with_reducible refine XO.eq (s.count c+1) om ?_|refine QA ?_|intro x hx hu|intro h|apply sS);have hz:=QMU (s.count c+1);conv=>whnf
 refine QT QB (λx:List (List UInt8)×List UInt8=>Q6 c s=x.1++Q6 c x.2/\x.1.length+x.2.count c=s.count c/\x.2.length<=s.length) (gsA c (s.count c)) (λx=>s.count c-x.1.length) ([],s) ⟨rfl,by simp,zt _⟩ ⟨⟨rfl,rfl,rfl,QK ?_,rfl,rfl,trivial⟩,⟨Qt (qp _) hz,trivial⟩,?_⟩ ?_
 ·omega
 ·simp only[S.ok,gsA,y9,xr,uw,xf,Ob.lt];rw[ze.2 (λx hx=>by rw[Wf hx];rfl)];rfl
 intro⟨x,r⟩ ⟨i1,i2,i3⟩;simp only at i1 i2 i3;have hlt:=QRC c r;(repeat' (conv=>whnf);first|refine CallE.con ⟨_,QMS r c,?_⟩|with_reducible refine XO.eq x.length (by dsimp only;omega) ?_|refine QA ?_|intro x hx hu|intro h|apply sS)
 ·have hn:Lib.indexByte r c= -1:=by have:=Lib.indexByte_ge r c;omega
  have h0:=QCr c r hn;have hl:x.length=s.count c:=by omega
  refine⟨(Q6 c s).map stL,⟨?_,?_,?_,?_⟩,rfl⟩
  ·dsimp only;omega
  ·simp only[zb,QDp c];omega
  ·intro y hy;obtain⟨z,_,rfl⟩:=yf.1 hy;rfl
  ·rw [i1,J9 c r hn];exact QMV x r _ hl
 ·have h0:0<=Lib.indexByte r c:=by omega
  obtain⟨k1,k2,k3⟩:=JF c r h0;have e1:(Lib.indexByte r c+([c]:List UInt8).length).toNat=(Lib.indexByte r c).toNat+1:=by simp only[yq,xv];omega
  refine again ((x++[r.take (Lib.indexByte r c).toNat],r.drop ((Lib.indexByte r c).toNat+1)):List (List UInt8)×List UInt8) ⟨?_,?_,?_⟩ (by show _-(x++_).length<_-x.length;rw[zu,xc];omega) (ai (QAY ?_) (ai rfl (ai rfl (ai rfl (ai rfl (ai (QK ?_) trivial)))))) (ai (Qt rfl ?_) trivial) ?_
  ·rw [i1,k2,x4];rfl
  ·show (x++_).length+(List.drop _ r).count c=_;rw[zu,xc];omega
  ·show (List.drop _ r).length<=_;rw[ym];omega
  ·rw [e1]
  ·rw [zu,xc];rfl
  ·have:=QKG (x.map stA) (s.count c+1-x.length) (stA []) (stA (r.take (Lib.indexByte r c).toNat));rw[zb]at this;rw[ye,zu,xc];refine W9 ?_ (this.trans ?_)
   ·simp only[Int.add_zero];rfl
   ·rw [show s.count c+1-x.length-1=s.count c+1-(x.length+1) by omega,x4];rfl
  ·simp only[S.ok,gsA,y9,xr,Ob.lt,vn,QOz];rw[ze.2 (λx hx=>by rw[Wf hx];rfl)];rfl
 ·have hn:Lib.indexByte r c= -1:=XC om;have h0:=QCr c r hn;have hl:x.length=s.count c:=by omega
  refine⟨(Q6 c s).map stL,⟨?_,?_,?_,?_⟩,rfl⟩
  ·dsimp only;omega
  ·simp only[zb,QDp c];omega
  ·intro y hy;obtain⟨z,_,rfl⟩:=yf.1 hy;rfl
  ·rw [i1,J9 c r hn];exact QMV x r _ hl
theorem QDq(c:UInt8)(s:List UInt8)(hs:s.length<=1000000):FnC Tryz.prog 107 [.d (.st s),.d (.st [c])] (.d (.fs 1 ((Q6 c s).map stL))):=by
 refine QJ QUE ?_;(repeat' (conv=>whnf);first|refine CallE.con ⟨_,QHD c s hs,?_⟩|refine QA ?_|intro x hx hu|intro h|apply sS);rfl
theorem QLZ:(QBe s==[])=s.all ZP:=by
 have key:∀l:List UInt8,l.dropWhile ZP=[]↔l.all ZP=true:=by
  intro l;induction l with
  |nil=>simp
  |cons a l ih=>
   rw[y9,zf];cases ha:ZP a with
   |true=>rw[qv ha,ih];simp
   |false=>rw[jl (by simp[ha])];simp
 have hall:QBe s=[]↔s.all ZP=true:=by
  rw[QBe,key,QFG];constructor
  ·intro h;by_cases h0:s.all ZP=true
   ·exact h0
   ·exfalso;have hne:s.reverse.dropWhile ZP≠[]:=λhe=>h0 (by rw[<-jg];exact(key _).1 he);have hd:=List.head_dropWhile_not ZP hne;rw[jg]at h;have:=ze.1 h _ (List.head_mem hne);rw[this]at hd;cases hd
  ·intro h;rw[jg,(key _).2 (by rw[jg];exact h)];rfl
 cases h:s.all ZP with
 |true=>rw[hall.2 h];rfl
 |false=>
  have:QBe s≠[]:=λhe=>by rw[hall.1 he]at h;cases h
  simpa using this
theorem QKH(s:List UInt8):FnC Tryz.prog 110 [.d (.st s)] (.d (.bl (Zt s))):=by
 refine QJ QUH ?_;by_cases h0:s=[]
 ·subst h0;(repeat' (conv=>whnf);first|refine QA ?_|intro x hx hu|intro h|apply sS);rfl
 have hp:1<=s.length:=jp.2 h0;by_cases h8:s.length<=8
 ·by_cases h1:s=[46]
  ·subst h1;(repeat' (conv=>whnf);first|refine QA ?_|intro x hx hu|intro h|apply sS);rfl
  by_cases h2:s=[46,46]
  ·subst h2;(repeat' (conv=>whnf);first|refine QA ?_|intro x hx hu|intro h|apply sS);rfl
  rw[QFF hp h8 h1 h2,<-QLZ];(repeat' (conv=>whnf);first|refine CallE.con ⟨_,QOw s h0 om,?_⟩|refine QA ?_|intro x hx hu|intro h|apply sS);rfl
 ·rw [QBd om];(repeat' (conv=>whnf);first|refine QA ?_|intro x hx hu|intro h|apply sS);rfl
theorem QFH(s:List UInt8):FnC Tryz.prog 202 [.d (.st s),.d (.st [47])] (.d (.bl (s.head? ==some 47))):=by
 refine QJ QUp ?_
 match s with
 |[]=>
  (repeat' (conv=>whnf);first|refine QA ?_|intro x hx hu|intro h|apply sS);rfl
 |b::r=>
  (repeat' (conv=>whnf);first|refine QA ?_|intro x hx hu|intro h|apply sS)
  ·refine ZW ?_;show([b]==[47])=(some b==some 47);by_cases hb:b=47
   ·subst hb;rfl
   ·rw [QJu (by simpa using hb)];exact(beq_eq_false_iff_ne.2 (by simpa using hb)).symm
  ·exfalso;simp at h;omega
theorem QRD{a b:List UInt8}{x:AV}(h:a=b):AV.tup [.d (.st a),x]=AV.tup [.d (.st b),x]:=by rw[h]
theorem QO0(r:List UInt8):FnC Tryz.prog 161 [.d (.st (47::r)),.d (.st [47])] (.tup [.d (.st r),.d (.bl true)]):=by
 refine QJ QSw ?_;have h:FnC Tryz.prog 202 [.d (.st (47::r)),.d (.st [47])] (.d (.bl true)):=QFH (47::r);(repeat' (conv=>whnf);first|refine CallE.con ⟨_,h,?_⟩|refine QA ?_|intro x hx hu|intro h|apply sS);exact QRD (by simp)
theorem QO1(s:List UInt8)(hs:s.head? ≠some 47):FnC Tryz.prog 161 [.d (.st s),.d (.st [47])] (.tup [.d (.st s),.d (.bl false)]):=by
 refine QJ QSw ?_;have h:=QFH s;rw[show(s.head? ==some 47)=false by simpa using hs]at h;(repeat' (conv=>whnf);first|refine CallE.con ⟨_,h,?_⟩|refine QA ?_|intro x hx hu|intro h|apply sS);rfl
theorem QRE(r:List UInt8):FnC Tryz.prog 106 [.d (.st (47::r)),.d (.st [47])] (.tup [.d (.st r),.d (.bl true)]):=by
 refine QJ QSj ?_;(repeat' (conv=>whnf);first|refine CallE.con ⟨_,QO0 r,?_⟩|refine QA ?_|intro x hx hu|intro h|apply sS);rfl
theorem QMW(s:List UInt8)(hs:s.head? ≠some 47):FnC Tryz.prog 106 [.d (.st s),.d (.st [47])] (.tup [.d (.st s),.d (.bl false)]):=by
 refine QJ QSj ?_;(repeat' (conv=>whnf);first|refine CallE.con ⟨_,QO1 s hs,?_⟩|refine QA ?_|intro x hx hu|intro h|apply sS);rfl
def QDF(p:List (List UInt8)×Int):AV:= .tup [.d (.fs 1 (p.1.map stL)),.d (.it .i64 p.2)]
variable {k i j:Nat}
theorem QLa{α:Type}{f:α->Bool}{l:List α}{c:α}(h:l[k]? =some c):(l.take (k+1)).all f=((l.take k).all f&&f c):=by
 rw[QW h,vn];simp
theorem QMX{α:Type}{f:α->Bool}{l:List α}{c:α}(h:l[k]? =some c)(hc:f c=false):l.all f=false:=by
 rw[Wa];exact⟨c,ya h,by simp[hc]⟩
theorem QDr{r:List UInt8}(h:¬47::r=[47])(hc:4<(Q6 47 r).length\/(Q6 47 r).all Zt=false):QO (47::r)=([],9):=by
 rw[QO,if_neg h];simp only[if_true];rw[if_neg];rintro⟨h1,h2⟩;rcases hc with hc|hc
 ·omega
 ·rw [h2]at hc;cases hc
theorem QHE{r:List UInt8}(h:¬47::r=[47])(h1:(Q6 47 r).length<=4)(h2:(Q6 47 r).all Zt=true):QO (47::r)=(Q6 47 r,0):=by
 rw[QO,if_neg h];simp only[if_true];rw[if_pos ⟨h1,h2⟩]
theorem QHF{r:List UInt8}(h:¬b=47):QO (b::r)=([],9):=by
 rw[QO,if_neg (by simp[h])];simp only[if_neg h]
theorem XD(p:List UInt8)(hp:p.length<=100000):FnC Tryz.prog 53 [.d (.st p)] (QDF (QO p)):=by
 refine QJ i53 ?_;by_cases h1:p=[47]
 ·subst h1;(repeat' (conv=>whnf);first|refine QA ?_|intro x hx hu|intro h|apply sS);rfl
 match p with
 |[]=>
  have hsp:=QDq 47 [] (by simp);(repeat' (conv=>whnf);first|refine CallE.con ⟨_,QMW [] (by simp),?_⟩|refine CallE.con ⟨_,hsp,?_⟩|refine QA ?_|intro x hx hu|intro h|apply sS);rfl
 |b::r=>
  by_cases hb:b=47
  ·subst hb;have hsp:=QDq 47 r (by simp at hp;omega);(repeat' (conv=>whnf);first|refine CallE.con ⟨_,QRE r,?_⟩|refine CallE.con ⟨_,hsp,?_⟩|refine cI QUF ?_|refine cI QUa ?_|refine QA ?_|intro x hx hu|intro h|apply sS)
   ·have hl4:4<(Q6 47 r).length:=by simp at h;omega
    exact(congrArg QDF (QDr h1 (.inl hl4))).symm
   have hl4:(Q6 47 r).length<=4:=by simp at h;omega
   generalize hl:Q6 47 r=l at*
   refine QFx QB (λk:Nat=>k<=l.length/\(l.take k).all Zt=true) (λk=>[(0,.d (.fs 1 (l.map stL))),(1,.fn (.func 109) [] []),(7,.d (.it .i64 l.length)),(8,.d (.it .i64 k))]) (λk=>l.length-k) 0 ⟨z7 _,rfl⟩ ⟨rfl,rfl,QK (by simp),rfl,trivial⟩ rfl ?_;intro k ⟨hk,ha⟩;(repeat' (conv=>whnf);first|refine CallE.con ⟨_,QKH x,?_⟩|refine cI QUG ?_|refine QA ?_|intro x hx hu|intro h|apply sS)
   ·refine QLA (k+1) ⟨by omega,by rw[QLa hx,ha];simpa using h⟩ (by dsimp only;omega) rr ?_ rfl;(repeat (first|exact trivial|refine ai rfl ?_))
   ·exact (congrArg QDF (QDr h1 (.inr (by rw[hl];exact QMX hx (by simpa using h))))).symm
   ·have hkl:k=l.length:=by omega
    rw[hkl,x7]at ha;refine W9 ?_ (congrArg QDF (QHE h1 (by rw[hl];exact hl4) (by rw[hl];exact ha))).symm;rw[hl];rfl
  ·have hsp:=QDq 47 (b::r) (by simp at hp⊢;omega);(repeat' (conv=>whnf);first|refine CallE.con ⟨_,QMW (b::r) (by simpa using hb),?_⟩|refine CallE.con ⟨_,hsp,?_⟩|refine QA ?_|intro x hx hu|intro h|apply sS);exact(congrArg QDF (QHF hb)).symm
def QF(s:List UInt8):List D:=s.map (λb=> .it .u8 b.toNat)
def Qs:List UInt8:=List.replicate 32 0
theorem Za(s:List UInt8):(QF s).length=s.length:=zb ..
theorem eqS:∀(s t:List UInt8),s.length=t.length->Yg (QF s) (QF t)=decide (s=t)
 |[],[],_=>rfl
 |[],b::t,h=>by cases h
 |a::s,[],h=>by cases h
 |a::s,b::t,h=>by
  have ih:=eqS s t (by simpa using h);show(eqD (.it .u8 a.toNat) (.it .u8 b.toNat)&&Yg (QF s) (QF t))=_;rw[ih,x8];simp only[eqD,zf,beq_iff_eq,decide_eq_true_eq,List.cons.injEq];refine and_congr_left' ⟨λh=>UInt8.toNat.inj om,λh=>by rw[h]⟩
theorem QMY:∀(s t:List UInt8),s.length=t.length->Q1 (QF s) (QF t)=true
 |[],[],_=>rfl
 |[],b::t,h=>by cases h
 |a::s,[],h=>by cases h
 |a::s,b::t,h=>by
  have ih:=QMY s t (by simpa using h);show(JP (.it .u8 a.toNat) (.it .u8 b.toNat)&&Q1 (QF s) (QF t))=true;rw[ih];rfl
theorem XK(s t:List UInt8)(hs:s.length=32)(ht:t.length=32):(true&&(Q1 (QF Qs) (QF s)&&Q1 (QF Qs) (QF t)))=true:=by
 rw[QMY _ _ (by rw[hs];rfl),QMY _ _ (by rw[ht];rfl)];rfl
theorem JZ:∀(l:List D),Sy.allD (l.map AV.d)=some l
 |[]=>rfl
 |x::l=>by show(match Sy.allD (l.map AV.d)with|some l=>some (x::l)|none=>none)=_;rw[JZ l]
variable {ty:Ty}
theorem Qz(ha:ty.kd.agg=true)(hz:ty.size=32)(hs:s.length=32):ldA ty 0 ((QF s).map AV.d)= .dg 32 (QF s):=by
 unfold ldA;rw[ha,cond_true,hz,vl,z8 (by rw[zb,Za,hs];exact zt _)];unfold QE1;rw[JZ]
theorem QM(ha:ty.kd.agg=false)(hb:s[k]? =some b):ldA ty k ((QF s).map AV.d)= .d (.it .u8 b.toNat):=by
 unfold ldA;rw[ha,cond_false,zr,yv,QF,yv,hb];rfl
theorem QO2(s:List UInt8)(hs:s.length=32):FnC Tryz.prog 215 [.dg 32 (QF s)] (.d (.bl (decide (s=Qs)))):=by
 refine QJ QUs ?_;(repeat' (conv=>whnf);first|refine AtA.eq (Qz rfl rfl hs) ?_|refine ZY (XK s Qs hs rfl) ?_|refine QA ?_|intro x hx hu|intro h|apply sS);exact ZW (eqS s Qs (by rw[hs];rfl))
theorem QGA(a n:Int):FnC Tryz.prog 201 [.d (.it .i64 a),.d (.it .i64 n)] (.d (.bl (decide (0<=a/\a<=32/\0<=n/\n<=32-a)))):=by
 refine QJ QUo ?_;by_cases h0:0<=a/\a<=32;all_goals (repeat' (conv=>whnf);first|refine QA ?_|intro x hx hu|intro h|apply sS)
 all_goals refine ZW ?_
 all_goals first|(rw[eq_comm];exact decide_eq_false om)|(rw[x8];simp;omega)
structure Ent where
 u:Bool
 p:Int
 n:List UInt8
 t:Int
deriving DecidableEq
def Xi(x:Ent):List D:=[.bl x.u,.it .i64 x.p,.st x.n,.it .i64 x.t]
def RE(x:Ent):Prop:=x.u=false/\x.p=0/\x.n=[]/\x.t=0\/x.u=true/\0<=x.p/\x.p<16/\1<=x.t/\x.t<16/\Zt x.n=true
instance(x:Ent):Decidable (RE x):=by unfold RE;infer_instance
variable {p:Prop}
theorem QTH [Decidable p](h:¬p):AV.d (.bl false)=AV.d (.bl (decide p)):=by rw[decide_eq_false h]
theorem QO3{e:Bool} [Decidable p](h:e=true↔p):AV.d (.bl e)=AV.d (.bl (decide p)):=by
 have:e=decide p:=by rw[x8,h,decide_eq_true_eq]
 rw[this]
theorem QTI(a a':Bool)(b b':Int)(c c':List UInt8)(d d':Int):Yg [.bl a,.it .i64 b,.st c,.it .i64 d] [.bl a',.it .i64 b',.st c',.it .i64 d']=decide (a=a'/\b=b'/\c=c'/\d=d'):=by
 rw[x8];simp[Yg,eqD]
theorem QTJ{a b:Bool}{v:AV}(h:a=b)(h2:AV.d (.bl b)=v):AV.d (.bl a)=v:=by rw[h,h2]
theorem QTK(x:Ent):FnC Tryz.prog 224 [.dg 4 (Xi x)] (.d (.bl (decide (RE x)))):=by
 refine QJ QUw ?_;have hn:=QKH x.n;cases hu:x.u with
 |false=>
  have hu':(!x.u)=true:=by rw[hu];rfl
  (repeat' (conv=>whnf);first|refine QA ?_|intro x hx hu|intro h|apply sS);exact QTJ (QTI _ _ _ _ _ _ _ _) (QO3 (by simp[RE,hu]))
 |true=>
  have hu':(!x.u)=false:=by rw[hu];rfl
  (repeat' (conv=>whnf);first|refine cEk hn ?_|refine cI QU0 ?_|refine QA ?_|intro x hx hu|intro h|apply sS);all_goals first
   |(refine QTH ?_;simp only[RE,hu];simp;omega)
   |exact QO3 ⟨λhb=> .inr ⟨hu,by omega,by omega,by omega,by omega,hb⟩,λh=>h.elim (λh=>by rw[hu]at h;cases h.1) λh=>h.2.2.2.2.2⟩
theorem QMZ(x:Ent):FnC Tryz.prog 179 [.dg 4 (Xi x)] (.d (.bl (decide (RE x)))):=by
 refine QJ QUi ?_;have hn:=QDn x.n;cases hu:x.u with
 |false=>
  have hu':(!x.u)=true:=by rw[hu];rfl
  (repeat' (conv=>whnf);first|refine QA ?_|intro x hx hu|intro h|apply sS);exact QTJ (QTI _ _ _ _ _ _ _ _) (QO3 (by simp[RE,hu]))
 |true=>
  have hu':(!x.u)=false:=by rw[hu];rfl
  (repeat' (conv=>whnf);first|refine cEk hn ?_|refine QA ?_|intro x hx hu|intro h|apply sS);all_goals first
   |(refine QTH ?_;simp only[RE,hu];simp;omega)
   |exact QO3 ⟨λhb=> .inr ⟨hu,by omega,by omega,by omega,by omega,hb⟩,λh=>h.elim (λh=>by rw[hu]at h;cases h.1) λh=>h.2.2.2.2.2⟩
def QCL(n:Int):UInt8:=UInt8.ofNat n.toNat
theorem QBf{n:Int}(h:0<=n/\n<256):((QCL n).toNat:Int)=n:=by
 unfold QCL;rw[UInt8.toNat_ofNat'];omega
def Xt(x:Ent):List UInt8:=if x.u=true then [1,QCL x.p,QCL x.t,QCL x.n.length,0,0,0,0,0,0,0,0,0,0,0,0]++x.n++List.replicate (16-x.n.length) 0 else Qs
def c16(x:Ent):List D:=[.it .u8 1,.it .u8 x.p,.it .u8 x.t,.it .u8 (x.n.length:Nat),.it .u8 0,.it .u8 0,.it .u8 0,.it .u8 0,.it .u8 0,.it .u8 0,.it .u8 0,.it .u8 0,.it .u8 0,.it .u8 0,.it .u8 0,.it .u8 0]
theorem Xj(l:List AV):l=[]++l++[]:=by simp
theorem QDs:∀(n:List UInt8),(QD n).flatten=QF n
 |[]=>rfl
 |b::n=>by show [D.it .u8 b.toNat]++(QD n).flatten=D.it .u8 b.toNat::QF n;rw[QDs n];rfl
theorem QMa(k:Nat):QF (List.replicate k 0)=List.replicate k (.it .u8 0):=by unfold QF;rw[uq];rfl
theorem QBg(x:Ent)(hx:RE x):(Xt x).length=32:=by
 unfold Xt;unfold RE at hx;split
 ·rename_i hu;rcases hx with h|⟨_,_,_,_,_,hn⟩
  ·rw [hu]at h;cases h.1
  ·have:x.n.length<=8:=by
    unfold Zt at hn;simp only[zf,decide_eq_true_eq]at hn;omega
   simp;omega
 ·rfl
variable {x:Ent}
theorem QHG(hu:x.u=true)(hp:0<=x.p/\x.p<16)(ht:0<=x.t/\x.t<16)(hn:x.n.length<=16):
  QF (Xt x)=c16 x++QF x.n++List.replicate (16-x.n.length) (.it .u8 0):=by
 unfold Xt;rw[if_pos hu];show QF (_++x.n++_)=_;unfold QF;rw[ye,ye];have e2:List.map (λb:UInt8=>D.it .u8 b.toNat) [1,QCL x.p,QCL x.t,QCL x.n.length,0,0,0,0,0,0,0,0,0,0,0,0]=c16 x:=by
  show [_,D.it .u8 (QCL x.p).toNat,D.it .u8 (QCL x.t).toNat,D.it .u8 (QCL x.n.length).toNat,_,_,_,_,_,_,_,_,_,_,_,_]=_;rw[QBf om,QBf om,QBf om];rfl
 rw[e2];have e3:=QMa (16-x.n.length);unfold QF at e3;rw[e3]
theorem QI2(hu:x.u=true)(hp:0<=x.p/\x.p<16)(ht:0<=x.t/\x.t<16)(hn:x.n.length<=16):
  (QF (Xt x)).map AV.d=((c16 x++List.replicate 16 (D.it .u8 0)).map AV.d).take 16++(QD x.n).flatten.map AV.d++((c16 x++List.replicate 16 (D.it .u8 0)).map AV.d).drop (16+x.n.length*1):=by
 have e1:=QHG hu hp ht hn;have hl:(c16 x).length=16:=rfl;rw[e1,QDs,ye,ye,ye];have t1:((c16 x).map AV.d++(List.replicate 16 (D.it .u8 0)).map AV.d).take 16=(c16 x).map AV.d:=Wx (by simp[hl]);have t2:((c16 x).map AV.d++(List.replicate 16 (D.it .u8 0)).map AV.d).drop (16+x.n.length*1)=(List.replicate (16-x.n.length) (D.it .u8 0)).map AV.d:=by
  rw[jh,vh (by simp[hl]),xf,zb,hl,uq,uq,jq];congr 1;omega
 rw[t1,t2]
theorem QMb(n:List UInt8):(QD n).length=n.length:=by unfold QD;exact zb ..
theorem QHH(hi:i=16)(hj:j=16+x.n.length*1)(hu:x.u=true)(hp:0<=x.p/\x.p<16)(ht:0<=x.t/\x.t<16)(hn:x.n.length<=16):
  (QF (Xt x)).map AV.d=((c16 x++List.replicate 16 (D.it .u8 0)).map AV.d).take i++(QD x.n).flatten.map AV.d++((c16 x++List.replicate 16 (D.it .u8 0)).map AV.d).drop j:=by
 subst hi hj;exact QI2 hu hp ht hn
def QDt(x:Ent):AV:=if RE x then .tup [.dg 32 (QF (Xt x)),.d (.bl true)]else .tup [.dg 32 (QF Qs),.d (.bl false)]
theorem QMc(x:Ent):FnC Tryz.prog 176 [.dg 4 (Xi x)] (QDt x):=by
 have hr:=QTK x;unfold QDt;by_cases h:RE x
 ·have hl:=QBg x h;rw[if_pos h];rw[decide_eq_true h]at hr;cases hu:x.u with
  |true=>
   obtain⟨hp,ht,hn⟩:(0<=x.p/\x.p<16)/\(0<=x.t/\x.t<16)/\x.n.length<=8:=by
    unfold RE at h;rcases h with h|⟨_,h1,h2,h3,h4,hn⟩
    ·rw [hu]at h;cases h.1
    ·unfold Zt at hn;simp only[zf,decide_eq_true_eq]at hn;omega
   refine QJ QQ7 ?_;(repeat' (conv=>whnf);first|refine cEk hr ?_|refine Zy.mk ((c16 x++List.replicate 16 (D.it .u8 0)).map AV.d) rfl ?_|refine Zy.mk ((QF (Xt x)).map AV.d) (QHH rfl (by show 0+16*1+(QD x.n).length*1=_;rw[QMb]) hu om om om) ?_|refine Zy.mk ((QF (Xt x)).map AV.d) (Xj _) ?_|refine Zy.now ?_|refine AtA.eq (Qz rfl rfl hl) ?_|with_reducible refine AtA.mk' ?_|refine QA ?_|intro x hx hu|intro h|apply sS);conv=>whnf
   conv in (ldA _ _ _)=>tactic=>exact Qz rfl rfl hl
   rfl
  |false=>
   have he:Xt x=Qs:=by unfold Xt;rw[hu];rfl
   rw[he];refine QJ QQ7 ?_;(repeat' (conv=>whnf);first|refine cEk hr ?_|with_reducible refine AtA.mk' ?_|refine QA ?_|intro x hx hu|intro h|apply sS);all_goals rfl
 ·rw [if_neg h];rw[decide_eq_false h]at hr;refine QJ QQ7 ?_;(repeat' (conv=>whnf);first|refine cEk hr ?_|with_reducible refine AtA.mk' ?_|refine QA ?_|intro x hx hu|intro h|apply sS);all_goals rfl
def eC(x:Ent)(i:Nat):List D:=c16 x++QF (x.n.take i)++List.replicate (16-i) (.it .u8 0)
theorem QO4{a b:List AV}(h:a=b):Ob.cells 32 a=Ob.cells 32 b:=by rw[h]
theorem QO5(hi:i<x.n.length)(hn:x.n.length<=8)(hc:x.n[i]? =some c)(hj:j=16+i):
  ((eC x i).map AV.d).take j++[AV.d (.it .u8 c.toNat)]++((eC x i).map AV.d).drop (j+1)=(eC x (i+1)).map AV.d:=by
 subst hj;have hl:(c16 x).length=16:=rfl;have hL:((c16 x).map AV.d++(QF (x.n.take i)).map AV.d).length=16+i:=by simp[Za,hl];omega
 unfold eC;rw[ye,ye,ye,ye];have t1:=Wx (l₁:=(c16 x).map AV.d++(QF (x.n.take i)).map AV.d) (l₂:=(List.replicate (16-i) (D.it .u8 0)).map AV.d) hL;have t2:((c16 x).map AV.d++(QF (x.n.take i)).map AV.d++(List.replicate (16-i) (D.it .u8 0)).map AV.d).drop (16+i+1)=(List.replicate (16-(i+1)) (D.it .u8 0)).map AV.d:=by
  rw[jh,vh om,xf,hL,uq,uq,jq];congr 1;omega
 rw[t1,t2];have t3:QF (x.n.take (i+1))=QF (x.n.take i)++[D.it .u8 c.toNat]:=by
  rw[List.take_add_one,hc];unfold QF;rw[ye];rfl
 rw[t3,ye];simp only[x4];rfl
theorem QCM(x:Ent):FnC Tryz.prog 135 [.dg 4 (Xi x)] (QDt x):=by
 have hr:=QMZ x;unfold QDt;by_cases h:RE x
 ·have hl:=QBg x h;rw[if_pos h];rw[decide_eq_true h]at hr;cases hu:x.u with
  |true=>
   have hu':(!x.u)=false:=by rw[hu];rfl
   obtain⟨hp,ht,hn⟩:(0<=x.p/\x.p<16)/\(0<=x.t/\x.t<16)/\x.n.length<=8:=by
    unfold RE at h;rcases h with h|⟨_,h1,h2,h3,h4,hn⟩
    ·rw [hu]at h;cases h.1
    ·unfold Zt at hn;simp only[zf,decide_eq_true_eq]at hn;omega
   refine QJ QQ4 ?_;(repeat' (conv=>whnf);first|refine cEk hr ?_|refine Zy.mk ((c16 x++List.replicate 16 (D.it .u8 0)).map AV.d) rfl ?_|refine Zy.now ?_|with_reducible refine AtA.mk' ?_|refine QA ?_|intro x hx hu|intro h|apply sS);conv=>whnf
   refine QT QB (λi:Nat=>i<=x.n.length) (λi:Nat=>⟨[(1,.ptr 0 0),(2,.ptr 1 0),(3,.d (.bl false)),(4,.ptr 2 0),(5,.d (.it .i64 (i:Nat)))],[(0,.cells 4 ((Xi x).map .d)),(1,.cells 32 ((QF Qs).map .d)),(2,.cells 32 ((eC x i).map .d))],3⟩) (λi=>x.n.length-i) 0 (z7 _) ⟨ai rfl rr,ai rfl rr,rfl⟩ ?_;intro i hi;rcases yj i x.n.length with hil|hil
   ·obtain ⟨c,hc⟩:=Qo hil;(repeat' (conv=>whnf);first|with_reducible refine QOT hc ?_|with_reducible refine AtA.mk' ?_|refine QA ?_|intro x hx hu|intro h|apply sS);refine again (i+1) om (by dsimp only;omega) rr (ai rfl (ai rfl (ai (QO4 (QO5 hil hn hc ?_)) trivial))) (by simp only[S.ok,y9,xr,Ob.lt,Xh];rfl);show 0+((16:Int)+(i:Nat)).toNat*1=16+i;omega
   ·have hi':i=x.n.length:=by omega
    have hfin:eC x i=QF (Xt x):=by
     unfold eC;rw[QHG hu hp ht om,hi',x7]
    rw[hfin];(repeat' (conv=>whnf);first|refine Zy.mk ((QF (Xt x)).map AV.d) (Xj _) ?_|refine AtA.eq (Qz rfl rfl hl) ?_|with_reducible refine AtA.mk' ?_|refine QA ?_|intro x hx hu|intro h|apply sS);conv=>whnf
    conv in (ldA _ _ _)=>tactic=>exact Qz rfl rfl hl
    rfl
  |false=>
   have hu':(!x.u)=true:=by rw[hu];rfl
   have he:Xt x=Qs:=by unfold Xt;rw[hu];rfl
   rw[he];refine QJ QQ4 ?_;(repeat' (conv=>whnf);first|refine cEk hr ?_|with_reducible refine AtA.mk' ?_|refine QA ?_|intro x hx hu|intro h|apply sS);all_goals rfl
 ·rw [if_neg h];rw[decide_eq_false h]at hr;refine QJ QQ4 ?_;(repeat' (conv=>whnf);first|refine cEk hr ?_|with_reducible refine AtA.mk' ?_|refine QA ?_|intro x hx hu|intro h|apply sS);all_goals rfl
theorem QCs:∀(n:List UInt8),(QD n).flatten=QF n
 |[]=>rfl
 |b::n=>by show [D.it .u8 b.toNat]++(QD n).flatten=D.it .u8 b.toNat::QF n;rw[QCs n];rfl
theorem QRF(s:List UInt8)(hs:s.length=32)(n:Nat)(hn:n<256):FnC Tryz.prog 216 [.dg 32 (QF s),.d (.it .i64 16),.d (.it .i64 (n:Nat))] (.d (.fs 1 (QD (if n<=16 then(s.drop 16).take n else [])))):=by
 have hf:=QGA 16 (n:Nat);by_cases h:n<=16
 ·rw [if_pos h];rw[decide_eq_true om]at hf;refine QJ QS6 ?_;(repeat' (conv=>whnf);first|refine CallE.con ⟨_,hf,?_⟩|refine cI QUL ?_|refine gOI ?_|intro x hx hu|intro h|apply sS);have hlen:((16+(n:Int)).toNat-Int.toNat 16)=n:=by omega
  have hL:((s.drop 16).take n).length=n:=by rw[zy,ym,hs];omega
  refine⟨QD ((s.drop 16).take n),⟨?_,?_,?_,?_,?_⟩,?_⟩
  ·show 0+Int.toNat 16*1+((16+(n:Int)).toNat-Int.toNat 16)*1<=32;omega
  ·show (QD ((s.drop 16).take n)).length=((16+(n:Int)).toNat-Int.toNat 16);rw[hlen];unfold QD;rw[zb,hL]
  ·intro x hx;show x.length=1;obtain⟨b,_,rfl⟩:=yf.1 hx;rfl
  ·show (((QF s).map AV.d).drop (0+Int.toNat 16*1)).take (((16+(n:Int)).toNat-Int.toNat 16)*1)=_;rw[hlen,QCs,qp];unfold QF;rw[uz,kv,uz,kv];rfl
  ·show 0+((16+(n:Int)).toNat-Int.toNat 16)<=1073741824;omega
  (repeat' (conv=>whnf);first|refine QA ?_|intro x hx hu|intro h|apply sS);all_goals rfl
 ·rw [if_neg h];rw[decide_eq_false om]at hf;refine QJ QS6 ?_;(repeat' (conv=>whnf);first|refine CallE.con ⟨_,hf,?_⟩|refine QA ?_|intro x hx hu|intro h|apply sS);all_goals (show AV.d (.fs 1 [])=_;rfl)
end Go.Proofs.YtikgcbioagmkkaaGreatDoor
