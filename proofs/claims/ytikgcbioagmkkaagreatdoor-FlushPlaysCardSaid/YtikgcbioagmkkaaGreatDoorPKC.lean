/- Contracts of the functions that the law reaches, and the law. Conditions: none. -/
import Derived.Test.YtikgcbioagmkkaaGreatDoorPKA
import Derived.WalkKit
import Derived.LoopTactic
import Derived.Lib.Buffer
import Derived.Lib.BufferWrite
import Derived.Deep.Draws
import Derived.Test.YtikgcbioagmkkaaGreatDoorProg
import Derived.Shelf.Strings.Builder1
import Derived.Shelf.Strings.Builder2
import Derived.Shelf.Strings.OnBuilder
import Derived.Shelf.Strings.Trim
import Derived.Shelf.Small.Utf8
import Derived.Shelf.Small.Bits
import Derived.Shelf.Small.Strs
import Derived.Shelf.Small.Wraps
import Derived.Shelf.Strings.BuilderF
import Derived.Shelf.Strings.BuilderK
import Derived.Shelf.Utf8.RuneCount
import Derived.Shelf.Strings.Builder2Cap
import Derived.Shelf.Strconv.Itoa0
import Derived.Shelf.LaysM
import Derived.Shelf.Bytes.Len
import Derived.Shelf.Bytes.TryGrow
import Derived.Shelf.Bytes.GrowSliceCatch
import Derived.Shelf.Bytes.GrowSlice
import Derived.Shelf.Bytes.Bytes
import Derived.Shelf.Strings.Search1
import Derived.Shelf.Bytes.GrowRow0Kept
import Derived.Shelf.Strings.Search2
import Derived.Shelf.Bytes.GrowRowKept
import Derived.Shelf.Strings.Search3
import Derived.Shelf.Bytes.GrowNilKept
import Derived.Shelf.Bytes.GrowKept
import Derived.Shelf.Strings.Count
import Derived.Shelf.Strings.Shaped
import Derived.Shelf.Sort.Plain
import Derived.Shelf.Bytes.ResetKept
import Derived.Shelf.Bytes.WriteKept
import Derived.Shelf.Bytes.BufferK
import Derived.Shelf.Strings.Prefix
import Derived.Shelf.Strings.Split
import Derived.Shelf.Strings.SplitShaped
import Derived.Shelf.Unicode.Decode
import Derived.Shelf.Strings.Runes
import Derived.Shelf.Strings.RuneCount
import Derived.Shelf.Strings.AsciiSet
import Derived.Shelf.Strings.Explode
import Derived.Shelf.Unicode.DecodeSlow
import Derived.Shelf.Unicode.DecodeAny
import Derived.Shelf.Unicode.DecodeLast
import Derived.Shelf.Strings.BuilderCap
import Derived.Shelf.Slices.Turned
import Derived.Ground.Names2Prog
import Derived.Shelf.Slices.Clone
import Derived.Shelf.Slices.CompactI
import Derived.Shelf.Slices.CompactS
import Derived.Shelf.Slices.SearchI
import Derived.Shelf.Slices.Cells
import Derived.Shelf.Slices.In.SortNone
import Derived.Ground.SlbCloneProg
import Derived.Shelf.Bytes.SlClone
set_option maxRecDepth 100000
set_option linter.all false
set_option maxHeartbeats 16000000
namespace Go.Proofs.YtikgcbioagmkkaaGreatDoor
open Go.Sy
def pw:List UInt8->List (List UInt8)
 |[]=>[]
 |_::t=>Q6 47 t
theorem QDu{s:List UInt8}(hs:s=[]\/s.head? =some 47):∀ {w:List UInt8},w.all (λb=>b !=47)=true->Q6 47 (w++s)=w::pw s
 |[],_=>by
  cases s with
  |nil=>rfl
  |cons b t=>
   rcases hs with hs|hs
   ·cases hs
   ·obtain rfl:b=47:=za hs;rfl
 |b::w,h=>by
  rw[y9,zf]at h;have hb:¬b=47:=by simpa using h.1
  rw[qe,Q6,if_neg hb,QDu hs h.2]
variable {p:List UInt8}
theorem QO6{i k:Nat}(hi:p[i]? =some 47)(h1:i+1<=k)(h2:k<=p.length)(ha:((p.take k).drop (i+1)).all (λb=>b !=47)=true)(hk:k=p.length\/p[k]? =some 47):pw (p.drop i)=(p.take k).drop (i+1)::pw (p.drop k):=by
 obtain⟨hil,hi'⟩:=z6.1 hi;have e1:p.drop i=47::p.drop (i+1):=by rw[<-hi'];exact vj hil
 have e2:p.drop (i+1)=(p.take k).drop (i+1)++p.drop k:=by
  have:=qg k p;conv=>lhs;rw[<-this]
  rw[jc (by rw[zy];omega)]
 rw[e1,pw,e2,QDu ?_ ha]
 ·rcases hk with hk|hk
  ·exact .inl (vh om)
  ·right;obtain⟨hkl,hk'⟩:=z6.1 hk;rw[vj hkl,hk'];rfl
def wI(p:List UInt8):List (List UInt8)×Nat->Prop
 |(ws,i)=>i<=p.length/\pw p=ws++pw (p.drop i)/\ws.all Zt=true/\ws.length<=i/\(i=0\/p[0]? =some 47/\(i=p.length\/p[i]? =some 47))
def wA(p:List UInt8):List (List UInt8)×Nat->S
 |(ws,i)=>⟨[(0,.d (.st p)),(4,.ts 1 (ws.map stL) 1),(5,.d (.it .i64 i))],[(1,.tail 9 true)],2⟩
theorem Jq(h1:¬p=[47])(h:¬p[0]? =some 47\/pw p=[]\/4<(pw p).length\/(pw p).all Zt=false):QO p=([],9):=by
 cases p with
 |nil=>rfl
 |cons b r=>
  by_cases hb:b=47
  ·subst hb;refine QDr h1 ?_;rcases h with h|h|h
   ·exact absurd rfl h
   ·exact absurd h (QLX 47 r)
   ·exact h
  ·exact QHF hb
theorem QI4(h1:¬p=[47])(h0:p[0]? =some 47)(h2:(pw p).length<=4)(h3:(pw p).all Zt=true):QO p=(pw p,0):=by
 cases p with
 |nil=>cases h0
 |cons b r=>
  obtain rfl:b=47:=za h0;exact QHE h1 h2 h3
theorem XX(p:List UInt8)(hp:p.length<=100000):FnC Tryz.prog 120 [.d (.st p)] (QDF (QO p)):=by
  refine QJ QUI ?_;by_cases h1:p=[47]
  · subst h1;(repeat' (conv=>whnf);first|refine QA ?_|intro x hx hu|intro h|apply sS);rfl
  (repeat' (conv=>whnf);first|refine QA ?_|intro x hx hu|intro h|apply sS);conv=>whnf
  refine QT QB (wI p) (wA p) (λx=>p.length-x.2) ([],0) ⟨z7 _,rfl,rfl,zt _,.inl rfl⟩ ⟨rr,rr,rfl⟩ ?_;intro⟨ws,i⟩ ⟨hi,hw,ha,hl,hs⟩;(repeat' (conv=>whnf);first|refine QA ?_|intro x hx hu|intro h|apply sS)
  · refine(congrArg QDF (Jq h1 ?_)).symm;rcases hs with hs|⟨_,hs|hs⟩
    · left;rw[<-hs];intro h47;rw[h47]at hx;obtain rfl:=za hx;exact h rfl
    · omega
    · rw[hs]at hx;obtain rfl:=za hx;exact absurd rfl h
  · have h47 : p[i]? = some 47 := by
      rw[hx];congr 1;exact qj.1 (by simp;omega)
    conv=>whnf
    refine QT QB (λk:Nat=>i+1<=k/\k<=p.length/\((p.take k).drop (i+1)).all (λb=>b !=47)=true) (λk=>⟨[(0,.d (.st p)),(4,.ts 1 (ws.map stL) 1),(5,.d (.it .i64 i)),(6,.d (.it .i64 k))],[(1,.tail 9 true)],2⟩) (λk=>p.length-k) (i+1) ⟨zt _,by omega,by simp⟩ ⟨⟨rfl,rfl,rfl,QK om,trivial⟩,rr,rfl⟩ ?_;intro k ⟨k1,k2,k3⟩;(repeat' (conv=>whnf);first|refine CallE.con ⟨_,QDn _,?_⟩|refine QA ?_|intro x hx hu|intro h|apply sS)
    · refine again (k+1) ⟨by omega,by omega,?_⟩ (by dsimp only;omega) rr rr rfl;rw[QW hx,jc (by rw[zy];omega),vn,k3];simp only[y9,xr,wh,wz,bne_iff_ne,ne_eq];rintro rfl;exact h rfl
    all_goals
      have hk:k=p.length\/p[k]? =some 47:=by
        first
        |(left;omega)
        |(right;rw[hx];congr 1;exact qj.1 (by simp;omega))
      have hst:=QO6 h47 k1 k2 k3 hk;have h00:p[0]? =some 47:=by
        rcases hs with hs|hs
        · rw[<-hs];exact h47
        · exact hs.1
      first
      | (refine again (ws ++ [(p.take k).drop (i + 1)], k) ⟨k2, ?_, ?_, ?_, .inr ⟨h00, hk⟩⟩ (by dsimp only; omega) (ai rfl (ai (QFu ?_) rr)) rr rfl
         · rw[hw,hst,x4];rfl
         · rw[vn,ha,wz];simp only[y9,xr,wh];simpa using h
         · rw[zu,xc];omega
         · rw[ye];rfl)
      | (refine (congrArg QDF (Jq h1 (.inr (.inr (.inr ?_))))).symm
         rw[hw,hst,vn,y9];have h':Zt ((p.take k).drop (i+1))=false:=by simpa using h
         rw[h'];simp)
  · exact(congrArg QDF (Jq h1 (.inr (.inl (by rw[hw,show i=p.length by omega,Wg];simp only[zb]at h;rw[yx.1 (show ws.length=0 by omega)];rfl))))).symm
  · exact(congrArg QDF (Jq h1 (.inr (.inr (.inl (by rw[hw,show i=p.length by omega,Wg];simp at h;simp[pw];omega)))))).symm
  · have e:pw p=ws:=by rw[hw,show i=p.length by omega,Wg];simp[pw]
    have hne:1<=ws.length:=by rename_i h2;simp only[zb]at h2;omega
    refine W9 ?_ (congrArg QDF (QI4 h1 ?_ ?_ ?_)).symm
    · rw[e];rfl
    · rcases hs with hs|hs
      · omega
      · exact hs.1
    · rw[e];simp at h;omega
    · rw[e];exact ha
def XI(l:List (List UInt8)):List UInt8:=if l=[]then [47]else Zu l
def QBE(a b:List UInt8)(e:Int):AV:= .tup [.d (.st a),.d (.st b),.d (.it .i64 e)]
def QLc(p:List UInt8):AV:=
 if(QO p).2≠0 then QBE [] [] (QO p).2 else
 if(QO p).1=[]then QBE [] [] 1 else QBE (XI (QO p).1.dropLast) ((QO p).1.getLastD []) 0
theorem QDv(l:List (List UInt8))(w:List UInt8):Zu (l++[w])=Zu l++47::w:=by simp[Zu]
variable {l:List (List UInt8)}
theorem QAA(k:Nat):(Zu (l.take k)).length<=(Zu l).length:=by
 have:Zu l=Zu (l.take k)++Zu (l.drop k):=by
  conv=>lhs;rw[<-qg k l]
  simp only[Zu,ye,Ve]
 rw[this,zu];omega
theorem Jr(l:List (List UInt8))(hl:(Zu l).length<=1000000)(hn:l.length<=1000000):FnC Tryz.prog 137 [.d (.fs 1 (l.map stL))] (.d (.st (XI l))):=by
 refine QJ QUS ?_;(repeat' (conv=>whnf);first|refine QA ?_|intro x hx hu|intro h|apply sS);conv=>whnf
 refine QT QB (λk:Nat=>k<=l.length) (λk=>⟨[(0,.d (.fs 1 (l.map stL))),(3,.d (.st (Zu (l.take k)))),(4,.d (.it .i64 k))],[],0⟩) (λk=>l.length-k) 0 (z7 _) ⟨rr,trivial,rfl⟩ ?_;intro k k1;have hla:(l.map stL).length=l.length:=by simp
 have b1:=QAA (l:=l) k;have b2:=QAA (l:=l) (k+1);have b3:∀x,l[k]? =some x->(Zu (l.take k)).length+(x.length+1)<=1000000:=λx hx=>by
  rw[QW hx,QDv,zu,yq]at b2;omega
 (repeat' (conv=>whnf);first|refine QA ?_|intro x hx hu|intro h|apply sS)
 ·have:=b3 x hx;(repeat' (conv=>whnf);first|refine QA ?_|intro x hx hu|intro h|apply sS);refine again (k+1) om (by dsimp only;omega) (ai rfl (ai (QAY ?_) rr)) trivial rfl;rw[QW hx,QDv,x4];rfl
 ·refine QAY ?_;rw[XI,if_pos (yx.1 (by simp only[zb]at h;omega))]
 ·refine QAY ?_;rw[show k=l.length by omega,x7,XI,if_neg (λh'=>by subst h';exact h rfl)]
theorem QDw(h:l.all Zt=true):∀w∈l,w.length<=8:=λw hw=>by
 have:=ze.1 h w hw;simp only[Zt,zf,decide_eq_true_eq]at this;exact this.1.2.1
theorem QAB(p:List UInt8):(QO p).1.length<=4/\(QO p).1.all Zt=true/\((QO p).1≠[]->(QO p).2=0):=by
 unfold QO;split
 ·exact ⟨by simp,rfl,λh=>absurd rfl h⟩
 ·split
  ·exact ⟨by simp,rfl,λh=>absurd rfl h⟩
  ·split
   ·split
    ·rename_i h;exact⟨h.1,h.2,λ_=>rfl⟩
    ·exact ⟨by simp,rfl,λh=>absurd rfl h⟩
   ·exact ⟨by simp,rfl,λh=>absurd rfl h⟩
theorem QCO(p:List UInt8)(hp:p.length<=100000):FnC Tryz.prog 84 [.d (.st p)] (QLc p):=by
 have h1:=XX p hp;obtain⟨n1,n2,n3⟩:=QAB p;unfold QLc;generalize QO p=sp at*
 obtain⟨l,e⟩:=sp;simp only at n1 n2 n3;have n4:=QDw n2
 match l with
 |[]=>
  by_cases he:e=0
  ·subst he;show FnC _ _ _ (QBE [] [] 1);refine QJ i84 ?_;(repeat' (conv=>whnf);first|refine CallE.con ⟨_,h1,?_⟩|refine QA ?_|intro x hx hu|intro h|apply sS);rfl
  ·simp only[ne_eq,he,not_false_eq_true,if_true];refine QJ i84 ?_;(repeat' (conv=>whnf);first|refine CallE.con ⟨_,h1,?_⟩|refine QA ?_|intro x hx hu|intro h|apply sS);rfl
 |[a]=>
  obtain rfl:=n3 (by simp);replace h1:FnC _ _ _ (.tup [.d (.fs 1 [[.st a]]),.d (.it .i64 0)]):=h1;have la:=n4 a (by simp);show FnC _ _ _ (QBE (XI []) a 0);have hj:=Jr [] (by simp[Zu];try omega) (by simp);refine QJ i84 ?_;(repeat' (conv=>whnf);first|refine CallE.con ⟨_,h1,?_⟩|refine ZK.mk ⟨_,hj,?_⟩|refine QA ?_|intro x hx hu|intro h|apply sS);rfl
 |[a,b]=>
  obtain rfl:=n3 (by simp);replace h1:FnC _ _ _ (.tup [.d (.fs 1 [[.st a],[.st b]]),.d (.it .i64 0)]):=h1;have la:=n4 a (by simp);have lb:=n4 b (by simp)
  show FnC _ _ _ (QBE (XI [a]) b 0);have hj:=Jr [a] (by simp[Zu];try omega) (by simp);refine QJ i84 ?_;(repeat' (conv=>whnf);first|refine CallE.con ⟨_,h1,?_⟩|refine ZK.mk ⟨_,hj,?_⟩|refine QA ?_|intro x hx hu|intro h|apply sS);rfl
 |[a,b,c]=>
  obtain rfl:=n3 (by simp);replace h1:FnC _ _ _ (.tup [.d (.fs 1 [[.st a],[.st b],[.st c]]),.d (.it .i64 0)]):=h1;have la:=n4 a (by simp);have lb:=n4 b (by simp);have lc:=n4 c (by simp)
  show FnC _ _ _ (QBE (XI [a,b]) c 0);have hj:=Jr [a,b] (by simp[Zu];try omega) (by simp);refine QJ i84 ?_;(repeat' (conv=>whnf);first|refine CallE.con ⟨_,h1,?_⟩|refine ZK.mk ⟨_,hj,?_⟩|refine QA ?_|intro x hx hu|intro h|apply sS);rfl
 |[a,b,c,d]=>
  obtain rfl:=n3 (by simp);replace h1:FnC _ _ _ (.tup [.d (.fs 1 [[.st a],[.st b],[.st c],[.st d]]),.d (.it .i64 0)]):=h1;have la:=n4 a (by simp);have lb:=n4 b (by simp);have lc:=n4 c (by simp);have ld:=n4 d (by simp)
  show FnC _ _ _ (QBE (XI [a,b,c]) d 0);have hj:=Jr [a,b,c] (by simp[Zu];try omega) (by simp);refine QJ i84 ?_;(repeat' (conv=>whnf);first|refine CallE.con ⟨_,h1,?_⟩|refine ZK.mk ⟨_,hj,?_⟩|refine QA ?_|intro x hx hu|intro h|apply sS);rfl
 |a::b::c::d::e::r=>simp at n1
theorem JH(l:List (List UInt8))(hn:l.length<=1000000)(hl:(Lib.join l [47]).length<=1000000):FnC Tryz.prog 226 [.d (.fs 1 (l.map stL))] (.d (.st (47::Lib.join l [47]))):=by
 refine QJ QUx ?_;(repeat' (conv=>whnf);first|refine CallE.con ⟨_,QOx l [47] hn om,?_⟩|refine QA ?_|intro x hx hu|intro h|apply sS);rfl
theorem QDQ{a b x:List UInt8}(h:a=b):AV.tup [.d (.st a),.d (.st x),.d (.it .i64 0)]=QBE b x 0:=by rw[h];rfl
theorem QI5(p:List UInt8)(hp:p.length<=100000):FnC Tryz.prog 181 [.d (.st p)] (QLc p):=by
 have h1:=XD p hp;obtain⟨n1,n2,n3⟩:=QAB p;unfold QLc;generalize QO p=sp at*
 obtain⟨l,e⟩:=sp;simp only at n1 n2 n3;have n4:=QDw n2
 match l with
 |[]=>
  by_cases he:e=0
  ·subst he;show FnC _ _ _ (QBE [] [] 1);refine QJ QLV ?_;(repeat' (conv=>whnf);first|refine CallE.con ⟨_,h1,?_⟩|refine QA ?_|intro x hx hu|intro h|apply sS);rfl
  ·simp only[ne_eq,he,not_false_eq_true,if_true];refine QJ QLV ?_;(repeat' (conv=>whnf);first|refine CallE.con ⟨_,h1,?_⟩|refine QA ?_|intro x hx hu|intro h|apply sS);rfl
 |[a]=>
  obtain rfl:=n3 (by simp);replace h1:FnC _ _ _ (.tup [.d (.fs 1 [[.st a]]),.d (.it .i64 0)]):=h1;have la:=n4 a (by simp);show FnC _ _ _ (QBE (XI []) a 0);have hj:=JH [] (by simp) (by simp[Lib.join,List.intercalate];try omega);refine QJ QLV ?_;(repeat' (conv=>whnf);first|refine CallE.con ⟨_,h1,?_⟩|refine ZK.mk ⟨_,hj,?_⟩|refine QA ?_|intro x hx hu|intro h|apply sS);exact(QDQ (x:=a) (show 47::Lib.join [] [47]=XI [] by simp[XI,Zu,Lib.join,List.intercalate]):_)
 |[a,b]=>
  obtain rfl:=n3 (by simp);replace h1:FnC _ _ _ (.tup [.d (.fs 1 [[.st a],[.st b]]),.d (.it .i64 0)]):=h1;have la:=n4 a (by simp);have lb:=n4 b (by simp)
  show FnC _ _ _ (QBE (XI [a]) b 0);have hj:=JH [a] (by simp) (by simp[Lib.join,List.intercalate];try omega);refine QJ QLV ?_;(repeat' (conv=>whnf);first|refine CallE.con ⟨_,h1,?_⟩|refine ZK.mk ⟨_,hj,?_⟩|refine QA ?_|intro x hx hu|intro h|apply sS);exact(QDQ (x:=b) (show 47::Lib.join [a] [47]=XI [a] by simp[XI,Zu,Lib.join,List.intercalate]):_)
 |[a,b,c]=>
  obtain rfl:=n3 (by simp);replace h1:FnC _ _ _ (.tup [.d (.fs 1 [[.st a],[.st b],[.st c]]),.d (.it .i64 0)]):=h1;have la:=n4 a (by simp);have lb:=n4 b (by simp);have lc:=n4 c (by simp)
  show FnC _ _ _ (QBE (XI [a,b]) c 0);have hj:=JH [a,b] (by simp) (by simp[Lib.join,List.intercalate];try omega);refine QJ QLV ?_;(repeat' (conv=>whnf);first|refine CallE.con ⟨_,h1,?_⟩|refine ZK.mk ⟨_,hj,?_⟩|refine QA ?_|intro x hx hu|intro h|apply sS);exact(QDQ (x:=c) (show 47::Lib.join [a,b] [47]=XI [a,b] by simp[XI,Zu,Lib.join,List.intercalate]):_)
 |[a,b,c,d]=>
  obtain rfl:=n3 (by simp);replace h1:FnC _ _ _ (.tup [.d (.fs 1 [[.st a],[.st b],[.st c],[.st d]]),.d (.it .i64 0)]):=h1;have la:=n4 a (by simp);have lb:=n4 b (by simp);have lc:=n4 c (by simp);have ld:=n4 d (by simp)
  show FnC _ _ _ (QBE (XI [a,b,c]) d 0);have hj:=JH [a,b,c] (by simp) (by simp[Lib.join,List.intercalate];try omega);refine QJ QLV ?_;(repeat' (conv=>whnf);first|refine CallE.con ⟨_,h1,?_⟩|refine ZK.mk ⟨_,hj,?_⟩|refine QA ?_|intro x hx hu|intro h|apply sS);exact(QDQ (x:=d) (show 47::Lib.join [a,b,c] [47]=XI [a,b,c] by simp[XI,Zu,Lib.join,List.intercalate]):_)
 |a::b::c::d::e::r=>simp at n1
end Go.Proofs.YtikgcbioagmkkaaGreatDoor
namespace Go.Proofs.YtikgcbioagmkkaaGreatDoor
open Go.RowKit
end Go.Proofs.YtikgcbioagmkkaaGreatDoor
namespace Go.Proofs
open Go.Shelf
end Go.Proofs
namespace Go.Proofs.YtikgcbioagmkkaaGreatDoor
open Go.Sy
end Go.Proofs.YtikgcbioagmkkaaGreatDoor
