/- Contracts of the functions that the law reaches, and the law. Conditions: none. -/
import Derived.Test.YtikgcbioagmkkaaGreatDoorCKA
import Derived.WalkKit
import Derived.LoopTactic
import Derived.Lib.Buffer
import Derived.Lib.BufferWrite
import Derived.Deep.Draws
import Derived.Test.YtikgcbioagmkkaaGreatDoorProg
import Derived.Shelf.Strings.Builder1
import Derived.Shelf.Strings.Builder2
import Derived.Shelf.Strings.OnBuilder
import Derived.Shelf.Strings.Trim
import Derived.Shelf.Small.Utf8
import Derived.Shelf.Small.Bits
import Derived.Shelf.Small.Strs
import Derived.Shelf.Small.Wraps
import Derived.Shelf.Strings.BuilderF
import Derived.Shelf.Strings.BuilderK
import Derived.Shelf.Utf8.RuneCount
import Derived.Shelf.Strings.Builder2Cap
import Derived.Shelf.Strconv.Itoa0
import Derived.Shelf.LaysM
import Derived.Shelf.Bytes.Len
import Derived.Shelf.Bytes.TryGrow
import Derived.Shelf.Bytes.GrowSliceCatch
import Derived.Shelf.Bytes.GrowSlice
import Derived.Shelf.Bytes.Bytes
import Derived.Shelf.Strings.Search1
import Derived.Shelf.Bytes.GrowRow0Kept
import Derived.Shelf.Strings.Search2
import Derived.Shelf.Bytes.GrowRowKept
import Derived.Shelf.Strings.Search3
import Derived.Shelf.Bytes.GrowNilKept
import Derived.Shelf.Bytes.GrowKept
import Derived.Shelf.Strings.Count
import Derived.Shelf.Strings.Shaped
import Derived.Shelf.Sort.Plain
import Derived.Shelf.Bytes.ResetKept
import Derived.Shelf.Bytes.WriteKept
import Derived.Shelf.Bytes.BufferK
import Derived.Shelf.Strings.Prefix
import Derived.Shelf.Strings.Split
import Derived.Shelf.Strings.SplitShaped
import Derived.Shelf.Unicode.Decode
import Derived.Shelf.Strings.Runes
import Derived.Shelf.Strings.RuneCount
import Derived.Shelf.Strings.AsciiSet
import Derived.Shelf.Strings.Explode
import Derived.Shelf.Unicode.DecodeSlow
import Derived.Shelf.Unicode.DecodeAny
import Derived.Shelf.Unicode.DecodeLast
import Derived.Shelf.Strings.BuilderCap
import Derived.Shelf.Slices.Turned
import Derived.Ground.Names2Prog
import Derived.Shelf.Slices.Clone
import Derived.Shelf.Slices.CompactI
import Derived.Shelf.Slices.CompactS
import Derived.Shelf.Slices.SearchI
import Derived.Shelf.Slices.Cells
import Derived.Shelf.Slices.In.SortNone
import Derived.Ground.SlbCloneProg
import Derived.Shelf.Bytes.SlClone
set_option maxRecDepth 100000
set_option linter.all false
set_option maxHeartbeats 16000000
namespace Go.Proofs.YtikgcbioagmkkaaGreatDoor
open Go.Sy
def pw:List UInt8->List (List UInt8)
 |[]=>[]
 |_::t=>Qp 47 t
theorem QDK{s:List UInt8}(hs:s=[]\/s.head? =some 47):∀ {w:List UInt8},w.all (λb=>b !=47)=true->Qp 47 (w++s)=w::pw s
 |[],_=>by
  cases s with
  |nil=>rfl
  |cons b t=>
   rcases hs with hs|hs
   ·cases hs
   ·obtain rfl:b=47:=za hs;rfl
 |b::w,h=>by
  rw[xc,zf]at h;have hb:¬b=47:=by simpa using h.1
  rw[j6,Qp,if_neg hb,QDK hs h.2]
theorem QIY{p:List UInt8}(h1:¬p=[47])(h0:p[0]? =some 47)(h2:(pw p).length<=4)(h3:(pw p).all Zh=true):QI p=(pw p,0):=by
 cases p with
 |nil=>cases h0
 |cons b r=>
  obtain rfl:b=47:=za h0;exact QGZ h1 h2 h3
def YC(l:List (List UInt8)):List UInt8:=if l=[]then [47]else YA l
def QEF(a b:List UInt8)(e:Int):AV:= .tup [.d (.st a),.d (.st b),.d (.it .i64 e)]
def QOi(p:List UInt8):AV:=
 if(QI p).2≠0 then QEF [] [] (QI p).2 else
 if(QI p).1=[]then QEF [] [] 1 else QEF (YC (QI p).1.dropLast) ((QI p).1.getLastD []) 0
theorem QGf{l:List (List UInt8)}(h:l.all Zh=true):∀w∈l,w.length<=8:=λw hw=>by
 have:=zb.1 h w hw;simp only[Zh,zf,decide_eq_true_eq]at this;exact this.1.2.1
theorem Jz(p:List UInt8):(QI p).1.length<=4/\(QI p).1.all Zh=true/\((QI p).1≠[]->(QI p).2=0):=by
 unfold QI;split
 ·exact ⟨by simp,rfl,λh=>absurd rfl h⟩
 ·split
  ·exact ⟨by simp,rfl,λh=>absurd rfl h⟩
  ·split
   ·split
    ·rename_i h;exact⟨h.1,h.2,λ_=>rfl⟩
    ·exact ⟨by simp,rfl,λh=>absurd rfl h⟩
   ·exact ⟨by simp,rfl,λh=>absurd rfl h⟩
theorem Y4(l:List (List UInt8))(hn:l.length<=1000000)(hl:(Lib.join l [47]).length<=1000000):FnC Tryz.prog 226 [.d (.fs 1 (l.map stL))] (.d (.st (47::Lib.join l [47]))):=by
 refine QK QUL ?_;(repeat' (conv=>whnf);first|refine CallE.con ⟨_,QOc l [47] hn om,?_⟩|refine QC ?_|intro x hx hu|intro h|apply sS);rfl
theorem QCv{a b x:List UInt8}(h:a=b):AV.tup [.d (.st a),.d (.st x),.d (.it .i64 0)]=QEF b x 0:=by rw[h];rfl
theorem QIZ(p:List UInt8)(hp:p.length<=100000):FnC Tryz.prog 181 [.d (.st p)] (QOi p):=by
 have h1:=Z2 p hp;obtain⟨n1,n2,n3⟩:=Jz p;unfold QOi;generalize QI p=sp at*
 obtain⟨l,e⟩:=sp;simp only at n1 n2 n3;have n4:=QGf n2
 match l with
 |[]=>
  by_cases he:e=0
  ·subst he;show FnC _ _ _ (QEF [] [] 1);refine QK QK2 ?_;(repeat' (conv=>whnf);first|refine CallE.con ⟨_,h1,?_⟩|refine QC ?_|intro x hx hu|intro h|apply sS);rfl
  ·simp only[ne_eq,he,not_false_eq_true,if_true];refine QK QK2 ?_;(repeat' (conv=>whnf);first|refine CallE.con ⟨_,h1,?_⟩|refine QC ?_|intro x hx hu|intro h|apply sS);rfl
 |[a]=>
  obtain rfl:=n3 (by simp);replace h1:FnC _ _ _ (.tup [.d (.fs 1 [[.st a]]),.d (.it .i64 0)]):=h1;have la:=n4 a (by simp);show FnC _ _ _ (QEF (YC []) a 0);have hj:=Y4 [] (by simp) (by simp[Lib.join,List.intercalate];try omega);refine QK QK2 ?_;(repeat' (conv=>whnf);first|refine CallE.con ⟨_,h1,?_⟩|refine Zk.mk ⟨_,hj,?_⟩|refine QC ?_|intro x hx hu|intro h|apply sS);exact(QCv (x:=a) (show 47::Lib.join [] [47]=YC [] by simp[YC,YA,Lib.join,List.intercalate]):_)
 |[a,b]=>
  obtain rfl:=n3 (by simp);replace h1:FnC _ _ _ (.tup [.d (.fs 1 [[.st a],[.st b]]),.d (.it .i64 0)]):=h1;have la:=n4 a (by simp);have lb:=n4 b (by simp)
  show FnC _ _ _ (QEF (YC [a]) b 0);have hj:=Y4 [a] (by simp) (by simp[Lib.join,List.intercalate];try omega);refine QK QK2 ?_;(repeat' (conv=>whnf);first|refine CallE.con ⟨_,h1,?_⟩|refine Zk.mk ⟨_,hj,?_⟩|refine QC ?_|intro x hx hu|intro h|apply sS);exact(QCv (x:=b) (show 47::Lib.join [a] [47]=YC [a] by simp[YC,YA,Lib.join,List.intercalate]):_)
 |[a,b,c]=>
  obtain rfl:=n3 (by simp);replace h1:FnC _ _ _ (.tup [.d (.fs 1 [[.st a],[.st b],[.st c]]),.d (.it .i64 0)]):=h1;have la:=n4 a (by simp);have lb:=n4 b (by simp);have lc:=n4 c (by simp)
  show FnC _ _ _ (QEF (YC [a,b]) c 0);have hj:=Y4 [a,b] (by simp) (by simp[Lib.join,List.intercalate];try omega);refine QK QK2 ?_;(repeat' (conv=>whnf);first|refine CallE.con ⟨_,h1,?_⟩|refine Zk.mk ⟨_,hj,?_⟩|refine QC ?_|intro x hx hu|intro h|apply sS);exact(QCv (x:=c) (show 47::Lib.join [a,b] [47]=YC [a,b] by simp[YC,YA,Lib.join,List.intercalate]):_)
 |[a,b,c,d]=>
  obtain rfl:=n3 (by simp);replace h1:FnC _ _ _ (.tup [.d (.fs 1 [[.st a],[.st b],[.st c],[.st d]]),.d (.it .i64 0)]):=h1;have la:=n4 a (by simp);have lb:=n4 b (by simp);have lc:=n4 c (by simp);have ld:=n4 d (by simp)
  show FnC _ _ _ (QEF (YC [a,b,c]) d 0);have hj:=Y4 [a,b,c] (by simp) (by simp[Lib.join,List.intercalate];try omega);refine QK QK2 ?_;(repeat' (conv=>whnf);first|refine CallE.con ⟨_,h1,?_⟩|refine Zk.mk ⟨_,hj,?_⟩|refine QC ?_|intro x hx hu|intro h|apply sS);exact(QCv (x:=d) (show 47::Lib.join [a,b,c] [47]=YC [a,b,c] by simp[YC,YA,Lib.join,List.intercalate]):_)
 |a::b::c::d::e::r=>simp at n1
end Go.Proofs.YtikgcbioagmkkaaGreatDoor
namespace Go.Proofs.YtikgcbioagmkkaaGreatDoor
open Go.RowKit
end Go.Proofs.YtikgcbioagmkkaaGreatDoor
namespace Go.Proofs
open Go.Shelf
end Go.Proofs
namespace Go.Proofs.YtikgcbioagmkkaaGreatDoor
open Go.Sy
end Go.Proofs.YtikgcbioagmkkaaGreatDoor
