/- Contracts of the functions that the law reaches, and the law. Conditions: none. -/
import Derived.Test.YtikgcbioagmkkaaGreatDoorFKA
import Derived.WalkKit
import Derived.LoopTactic
import Derived.Lib.Buffer
import Derived.Lib.BufferWrite
import Derived.Deep.Draws
import Derived.Test.YtikgcbioagmkkaaGreatDoorProg
import Derived.Shelf.Strings.Builder1
import Derived.Shelf.Strings.Builder2
import Derived.Shelf.Strings.OnBuilder
import Derived.Shelf.Strings.Trim
import Derived.Shelf.Small.Utf8
import Derived.Shelf.Small.Bits
import Derived.Shelf.Small.Strs
import Derived.Shelf.Small.Wraps
import Derived.Shelf.Strings.BuilderF
import Derived.Shelf.Strings.BuilderK
import Derived.Shelf.Utf8.RuneCount
import Derived.Shelf.Strings.Builder2Cap
import Derived.Shelf.Strconv.Itoa0
import Derived.Shelf.LaysM
import Derived.Shelf.Bytes.Len
import Derived.Shelf.Bytes.TryGrow
import Derived.Shelf.Bytes.GrowSliceCatch
import Derived.Shelf.Bytes.GrowSlice
import Derived.Shelf.Bytes.Bytes
import Derived.Shelf.Strings.Search1
import Derived.Shelf.Bytes.GrowRow0Kept
import Derived.Shelf.Strings.Search2
import Derived.Shelf.Bytes.GrowRowKept
import Derived.Shelf.Strings.Search3
import Derived.Shelf.Bytes.GrowNilKept
import Derived.Shelf.Bytes.GrowKept
import Derived.Shelf.Strings.Count
import Derived.Shelf.Strings.Shaped
import Derived.Shelf.Sort.Plain
import Derived.Shelf.Bytes.ResetKept
import Derived.Shelf.Bytes.WriteKept
import Derived.Shelf.Bytes.BufferK
import Derived.Shelf.Strings.Prefix
import Derived.Shelf.Strings.Split
import Derived.Shelf.Strings.SplitShaped
import Derived.Shelf.Unicode.Decode
import Derived.Shelf.Strings.Runes
import Derived.Shelf.Strings.RuneCount
import Derived.Shelf.Strings.AsciiSet
import Derived.Shelf.Strings.Explode
import Derived.Shelf.Unicode.DecodeSlow
import Derived.Shelf.Unicode.DecodeAny
import Derived.Shelf.Unicode.DecodeLast
import Derived.Shelf.Strings.BuilderCap
import Derived.Shelf.Slices.Turned
import Derived.Ground.Names2Prog
import Derived.Shelf.Slices.Clone
import Derived.Shelf.Slices.CompactI
import Derived.Shelf.Slices.CompactS
import Derived.Shelf.Slices.SearchI
import Derived.Shelf.Slices.Cells
import Derived.Shelf.Slices.In.SortNone
import Derived.Ground.SlbCloneProg
import Derived.Shelf.Bytes.SlClone
set_option maxRecDepth 100000
set_option linter.all false
set_option maxHeartbeats 16000000
namespace Go.Proofs.YtikgcbioagmkkaaGreatDoor
open Go.Sy
def YC(l:List (List UInt8)):List UInt8:=if l=[]then [47]else QAa l
def QDL(a b:List UInt8)(e:Int):AV:= .tup [.d (.st a),.d (.st b),.d (.it .i64 e)]
def QMW(p:List UInt8):AV:=
 if(QH p).2≠0 then QDL [] [] (QH p).2 else
 if(QH p).1=[]then QDL [] [] 1 else QDL (YC (QH p).1.dropLast) ((QH p).1.getLastD []) 0
theorem QFY{l:List (List UInt8)}(h:l.all Xb=true):∀w∈l,w.length≤8:=fun w hw=>by
 have:=zb.1 h w hw
 simp only[Xb,zf,decide_eq_true_eq]at this
 exact this.1.2.1
theorem QBn(p:List UInt8):(QH p).1.length≤4∧(QH p).1.all Xb=true∧((QH p).1≠[]→(QH p).2=0):=by
 unfold QH
 split
 ·exact ⟨by simp,rfl,fun h=>absurd rfl h⟩
 ·split
  ·exact ⟨by simp,rfl,fun h=>absurd rfl h⟩
  ·split
   ·split
    ·rename_i h;exact⟨h.1,h.2,fun _=>rfl⟩
    ·exact ⟨by simp,rfl,fun h=>absurd rfl h⟩
   ·exact ⟨by simp,rfl,fun h=>absurd rfl h⟩
theorem YX(l:List (List UInt8))(hn:l.length≤1000000)(hl:(Lib.join l [47]).length≤1000000):FnC Tryz.prog 226 [.d (.fs 1 (l.map stL))] (.d (.st (47::Lib.join l [47]))):=by
 refine QL QRL ?_
 (repeat' ((conv=>whnf);first|refine CallE.con ⟨_,QMQ l [47] hn (by omega),?_⟩|refine QB ?_|intro x hx hu|intro h|refine Spp.mk ?_ ?_))
 rfl
theorem QCH{a b x:List UInt8}(h:a=b):AV.tup [.d (.st a),.d (.st x),.d (.it .i64 0)]=QDL b x 0:=by rw[h];rfl
theorem QHB(p:List UInt8)(hp:p.length≤100000):FnC Tryz.prog 181 [.d (.st p)] (QMW p):=by
 have h1:=Zj p hp
 obtain⟨n1,n2,n3⟩:=QBn p
 unfold QMW
 generalize QH p=sp at*
 obtain⟨l,e⟩:=sp
 simp only at n1 n2 n3
 have n4:=QFY n2
 match l with
 |[]=>
  by_cases he:e=0
  ·subst he
   show FnC _ _ _ (QDL [] [] 1)
   refine QL QJH ?_
   (repeat' ((conv=>whnf);first|refine CallE.con ⟨_,h1,?_⟩|refine QB ?_|intro x hx hu|intro h|refine Spp.mk ?_ ?_))
   rfl
  ·simp only[ne_eq,he,not_false_eq_true,if_true]
   refine QL QJH ?_
   (repeat' ((conv=>whnf);first|refine CallE.con ⟨_,h1,?_⟩|refine QB ?_|intro x hx hu|intro h|refine Spp.mk ?_ ?_))
   rfl
 |[a]=>
  obtain rfl:=n3 (by simp)
  replace h1:FnC _ _ _ (.tup [.d (.fs 1 [[.st a]]),.d (.it .i64 0)]):=h1
  have la:=n4 a (by simp)
  show FnC _ _ _ (QDL (YC []) a 0)
  have hj:=YX [] (by simp) (by simp[Lib.join,List.intercalate];try omega)
  refine QL QJH ?_
  (repeat' ((conv=>whnf);first|refine CallE.con ⟨_,h1,?_⟩|refine Ze.mk ⟨_,hj,?_⟩|refine QB ?_|intro x hx hu|intro h|refine Spp.mk ?_ ?_))
  exact(QCH (x:=a) (show 47::Lib.join [] [47]=YC [] by simp[YC,QAa,Lib.join,List.intercalate]):_)
 |[a,b]=>
  obtain rfl:=n3 (by simp)
  replace h1:FnC _ _ _ (.tup [.d (.fs 1 [[.st a],[.st b]]),.d (.it .i64 0)]):=h1
  have la:=n4 a (by simp);have lb:=n4 b (by simp)
  show FnC _ _ _ (QDL (YC [a]) b 0)
  have hj:=YX [a] (by simp) (by simp[Lib.join,List.intercalate];try omega)
  refine QL QJH ?_
  (repeat' ((conv=>whnf);first|refine CallE.con ⟨_,h1,?_⟩|refine Ze.mk ⟨_,hj,?_⟩|refine QB ?_|intro x hx hu|intro h|refine Spp.mk ?_ ?_))
  exact(QCH (x:=b) (show 47::Lib.join [a] [47]=YC [a] by simp[YC,QAa,Lib.join,List.intercalate]):_)
 |[a,b,c]=>
  obtain rfl:=n3 (by simp)
  replace h1:FnC _ _ _ (.tup [.d (.fs 1 [[.st a],[.st b],[.st c]]),.d (.it .i64 0)]):=h1
  have la:=n4 a (by simp);have lb:=n4 b (by simp);have lc:=n4 c (by simp)
  show FnC _ _ _ (QDL (YC [a,b]) c 0)
  have hj:=YX [a,b] (by simp) (by simp[Lib.join,List.intercalate];try omega)
  refine QL QJH ?_
  (repeat' ((conv=>whnf);first|refine CallE.con ⟨_,h1,?_⟩|refine Ze.mk ⟨_,hj,?_⟩|refine QB ?_|intro x hx hu|intro h|refine Spp.mk ?_ ?_))
  exact(QCH (x:=c) (show 47::Lib.join [a,b] [47]=YC [a,b] by simp[YC,QAa,Lib.join,List.intercalate]):_)
 |[a,b,c,d]=>
  obtain rfl:=n3 (by simp)
  replace h1:FnC _ _ _ (.tup [.d (.fs 1 [[.st a],[.st b],[.st c],[.st d]]),.d (.it .i64 0)]):=h1
  have la:=n4 a (by simp);have lb:=n4 b (by simp);have lc:=n4 c (by simp);have ld:=n4 d (by simp)
  show FnC _ _ _ (QDL (YC [a,b,c]) d 0)
  have hj:=YX [a,b,c] (by simp) (by simp[Lib.join,List.intercalate];try omega)
  refine QL QJH ?_
  (repeat' ((conv=>whnf);first|refine CallE.con ⟨_,h1,?_⟩|refine Ze.mk ⟨_,hj,?_⟩|refine QB ?_|intro x hx hu|intro h|refine Spp.mk ?_ ?_))
  exact(QCH (x:=d) (show 47::Lib.join [a,b,c] [47]=YC [a,b,c] by simp[YC,QAa,Lib.join,List.intercalate]):_)
 |a::b::c::d::e::r=>simp at n1
end Go.Proofs.YtikgcbioagmkkaaGreatDoor
namespace Go.Proofs.YtikgcbioagmkkaaGreatDoor
open Go.RowKit
end Go.Proofs.YtikgcbioagmkkaaGreatDoor
namespace Go.Proofs
open Go.Shelf
end Go.Proofs
namespace Go.Proofs.YtikgcbioagmkkaaGreatDoor
open Go.Sy
end Go.Proofs.YtikgcbioagmkkaaGreatDoor
