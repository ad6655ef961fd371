/- Contracts of the functions that the law reaches, and the law. Conditions: none. -/
import Derived.Test.YtikgcbioagmkkaaGreatDoorKA
import Derived.WalkKit
import Derived.LoopTactic
import Derived.Lib.Buffer
import Derived.Lib.BufferWrite
import Derived.Deep.Draws
import Derived.Test.YtikgcbioagmkkaaGreatDoorProg
import Derived.Shelf.Strings.Builder1
import Derived.Shelf.Strings.Builder2
import Derived.Shelf.Strings.OnBuilder
import Derived.Shelf.Strings.Trim
import Derived.Shelf.Small.Utf8
import Derived.Shelf.Small.Bits
import Derived.Shelf.Small.Strs
import Derived.Shelf.Small.Wraps
import Derived.Shelf.Strings.BuilderF
import Derived.Shelf.Strings.BuilderK
import Derived.Shelf.Utf8.RuneCount
import Derived.Shelf.Strings.Builder2Cap
import Derived.Shelf.Strconv.Itoa0
import Derived.Shelf.LaysM
import Derived.Shelf.Bytes.Len
import Derived.Shelf.Bytes.TryGrow
import Derived.Shelf.Bytes.GrowSliceCatch
import Derived.Shelf.Bytes.GrowSlice
import Derived.Shelf.Bytes.Bytes
import Derived.Shelf.Strings.Search1
import Derived.Shelf.Bytes.GrowRow0Kept
import Derived.Shelf.Strings.Search2
import Derived.Shelf.Bytes.GrowRowKept
import Derived.Shelf.Strings.Search3
import Derived.Shelf.Bytes.GrowNilKept
import Derived.Shelf.Bytes.GrowKept
import Derived.Shelf.Strings.Count
import Derived.Shelf.Strings.Shaped
import Derived.Shelf.Sort.Plain
import Derived.Shelf.Bytes.ResetKept
import Derived.Shelf.Bytes.WriteKept
import Derived.Shelf.Bytes.BufferK
import Derived.Shelf.Strings.Prefix
import Derived.Shelf.Strings.Split
import Derived.Shelf.Strings.SplitShaped
import Derived.Shelf.Unicode.Decode
import Derived.Shelf.Strings.Runes
import Derived.Shelf.Strings.RuneCount
import Derived.Shelf.Strings.AsciiSet
import Derived.Shelf.Strings.Explode
import Derived.Shelf.Unicode.DecodeSlow
import Derived.Shelf.Unicode.DecodeAny
import Derived.Shelf.Unicode.DecodeLast
import Derived.Shelf.Strings.BuilderCap
import Derived.Shelf.Slices.Turned
import Derived.Ground.Names2Prog
import Derived.Shelf.Slices.Clone
import Derived.Shelf.Slices.CompactI
import Derived.Shelf.Slices.CompactS
import Derived.Shelf.Slices.SearchI
import Derived.Shelf.Slices.Cells
import Derived.Shelf.Slices.In.SortNone
import Derived.Ground.SlbCloneProg
import Derived.Shelf.Bytes.SlClone
set_option maxRecDepth 100000
set_option linter.all false
set_option maxHeartbeats 16000000
namespace Go.Proofs.YtikgcbioagmkkaaGreatDoor
open Go.Sy
def pw:List UInt8→List (List UInt8)
 |[]=>[]
 |_::t=>Qv 47 t
theorem QDi{s:List UInt8}(hs:s=[]∨s.head? =some 47):∀ {w:List UInt8},w.all (fun b=>b !=47)=true→Qv 47 (w++s)=w::pw s
 |[],_=>by
  cases s with
  |nil=>rfl
  |cons b t=>
   rcases hs with hs|hs
   ·cases hs
   ·obtain rfl:b=47:=za hs
    rfl
 |b::w,h=>by
  rw[y3,zf]at h
  have hb:¬b=47:=by simpa using h.1
  rw[qu,Qv,if_neg hb,QDi hs h.2]
theorem QOk{p:List UInt8}{i k:Nat}(hi:p[i]? =some 47)(h1:i+1≤k)(h2:k≤p.length)(ha:((p.take k).drop (i+1)).all (fun b=>b !=47)=true)(hk:k=p.length∨p[k]? =some 47):pw (p.drop i)=(p.take k).drop (i+1)::pw (p.drop k):=by
 obtain⟨hil,hi'⟩:=z6.1 hi
 have e1:p.drop i=47::p.drop (i+1):=by rw[←hi'];exact wn hil
 have e2:p.drop (i+1)=(p.take k).drop (i+1)++p.drop k:=by
  have:=js k p
  conv=>lhs;rw[←this]
  rw[j7 (by rw[z1];omega)]
 rw[e1,pw,e2,QDi ?_ ha]
 ·rcases hk with hk|hk
  ·exact .inl (vf (by omega))
  ·right
   obtain⟨hkl,hk'⟩:=z6.1 hk
   rw[wn hkl,hk'];rfl
def wI(p:List UInt8):List (List UInt8)×Nat→Prop
 |(ws,i)=>i≤p.length∧pw p=ws++pw (p.drop i)∧ws.all Zl=true∧ws.length≤i∧(i=0∨p[0]? =some 47∧(i=p.length∨p[i]? =some 47))
def wA(p:List UInt8):List (List UInt8)×Nat→S
 |(ws,i)=>⟨[(0,.d (.st p)),(4,.ts 1 (ws.map stL) 1),(5,.d (.it .i64 i))],[(1,.tail 9 true)],2⟩
theorem Jc{p:List UInt8}(h1:¬p=[47])(h:¬p[0]? =some 47∨pw p=[]∨4<(pw p).length∨(pw p).all Zl=false):QO p=([],9):=by
 cases p with
 |nil=>rfl
 |cons b r=>
  by_cases hb:b=47
  ·subst hb
   refine QDe h1 ?_
   rcases h with h|h|h
   ·exact absurd rfl h
   ·exact absurd h (QKu 47 r)
   ·exact h
  ·exact QG6 hb
theorem QIj{p:List UInt8}(h1:¬p=[47])(h0:p[0]? =some 47)(h2:(pw p).length≤4)(h3:(pw p).all Zl=true):QO p=(pw p,0):=by
 cases p with
 |nil=>cases h0
 |cons b r=>
  obtain rfl:b=47:=za h0
  exact QG5 h1 h2 h3
theorem XS(p:List UInt8)(hp:p.length≤100000):FnC Tryz.prog 120 [.d (.st p)] (QC4 (QO p)):=by
  refine QL QTQ ?_
  by_cases h1:p=[47]
  · subst h1
    (repeat' ((conv=>whnf);first|refine QB ?_|intro x hx hu|intro h|refine Spp.mk ?_ ?_))
    rfl
  (repeat' ((conv=>whnf);first|refine QB ?_|intro x hx hu|intro h|refine Spp.mk ?_ ?_))
  conv=>whnf
  refine QU QA (wI p) (wA p) (fun x=>p.length-x.2) ([],0) ⟨z7 _,rfl,rfl,zt _,.inl rfl⟩ ⟨⟨rfl,rfl,rfl,trivial⟩,⟨rfl,trivial⟩,rfl⟩ ?_
  intro⟨ws,i⟩ ⟨hi,hw,ha,hl,hs⟩
  (repeat' ((conv=>whnf);first|refine QB ?_|intro x hx hu|intro h|refine Spp.mk ?_ ?_))
  · refine(congrArg QC4 (Jc h1 ?_)).symm
    rcases hs with hs|⟨_,hs|hs⟩
    · left;rw[←hs];intro h47;rw[h47]at hx;obtain rfl:=za hx;exact h rfl
    · omega
    · rw[hs]at hx;obtain rfl:=za hx;exact absurd rfl h
  · have h47 : p[i]? = some 47 := by
      rw[hx];congr 1
      exact jw.1 (by simp;omega)
    conv=>whnf
    refine QU QA (fun k:Nat=>i+1≤k∧k≤p.length∧((p.take k).drop (i+1)).all (fun b=>b !=47)=true) (fun k=>⟨[(0,.d (.st p)),(4,.ts 1 (ws.map stL) 1),(5,.d (.it .i64 i)),(6,.d (.it .i64 k))],[(1,.tail 9 true)],2⟩) (fun k=>p.length-k) (i+1) ⟨zt _,by omega,by simp⟩ ⟨⟨rfl,rfl,rfl,QQ (by omega),trivial⟩,⟨rfl,trivial⟩,rfl⟩ ?_
    intro k ⟨k1,k2,k3⟩
    (repeat' ((conv=>whnf);first|refine CallE.con ⟨_,QDa _,?_⟩|refine QB ?_|intro x hx hu|intro h|refine Spp.mk ?_ ?_))
    · refine again (k+1) ⟨by omega,by omega,?_⟩ (by dsimp only;omega) (ai rfl (ai rfl (ai rfl (ai rfl trivial)))) (ai rfl trivial) rfl
      rw[Qo hx,j7 (by rw[z1];omega),vi,k3]
      simp only[y3,xv,wo,vy,bne_iff_ne,ne_eq]
      rintro rfl
      exact h rfl
    all_goals
      have hk:k=p.length∨p[k]? =some 47:=by
        first
        |(left;omega)
        |(right;rw[hx];congr 1;exact jw.1 (by simp;omega))
      have hst:=QOk h47 k1 k2 k3 hk
      have h00:p[0]? =some 47:=by
        rcases hs with hs|hs
        · rw[←hs];exact h47
        · exact hs.1
      first
      | (refine again (ws ++ [(p.take k).drop (i + 1)], k) ⟨k2, ?_, ?_, ?_, .inr ⟨h00, hk⟩⟩ (by dsimp only; omega) (ai rfl (ai (QAr ?_) (ai rfl trivial))) (ai rfl trivial) rfl
         · rw[hw,hst,y5];rfl
         · rw[vi,ha,vy]
           simp only[y3,xv,wo]
           simpa using h
         · rw[zj,xd];omega
         · rw[yc];rfl)
      | (refine (congrArg QC4 (Jc h1 (.inr (.inr (.inr ?_))))).symm
         rw[hw,hst,vi,y3]
         have h':Zl ((p.take k).drop (i+1))=false:=by simpa using h
         rw[h'];simp)
  · exact(congrArg QC4 (Jc h1 (.inr (.inl (by rw[hw,show i=p.length by omega,qv];simp only[zb]at h;rw[yv.1 (show ws.length=0 by omega)];rfl))))).symm
  · exact(congrArg QC4 (Jc h1 (.inr (.inr (.inl (by rw[hw,show i=p.length by omega,qv];simp at h;simp[pw];omega)))))).symm
  · have e:pw p=ws:=by rw[hw,show i=p.length by omega,qv];simp[pw]
    have hne:1≤ws.length:=by rename_i h2;simp only[zb]at h2;omega
    refine Eq.trans ?_ (congrArg QC4 (QIj h1 ?_ ?_ ?_)).symm
    · rw[e];rfl
    · rcases hs with hs|hs
      · omega
      · exact hs.1
    · rw[e];simp at h;omega
    · rw[e];exact ha
def XC(l:List (List UInt8)):List UInt8:=if l=[]then [47]else Zm l
def QAw(a b:List UInt8)(e:Int):AV:= .tup [.d (.st a),.d (.st b),.d (.it .i64 e)]
def QKz(p:List UInt8):AV:=
 if(QO p).2≠0 then QAw [] [] (QO p).2 else
 if(QO p).1=[]then QAw [] [] 1 else QAw (XC (QO p).1.dropLast) ((QO p).1.getLastD []) 0
theorem QDj(l:List (List UInt8))(w:List UInt8):Zm (l++[w])=Zm l++47::w:=by simp[Zm]
theorem Jy{l:List (List UInt8)}(k:Nat):(Zm (l.take k)).length≤(Zm l).length:=by
 have:Zm l=Zm (l.take k)++Zm (l.drop k):=by
  conv=>lhs;rw[←js k l]
  simp only[Zm,yc,W3]
 rw[this,zj];omega
theorem Jd(l:List (List UInt8))(hl:(Zm l).length≤1000000)(hn:l.length≤1000000):FnC Tryz.prog 137 [.d (.fs 1 (l.map stL))] (.d (.st (XC l))):=by
 refine QL QTY ?_
 (repeat' ((conv=>whnf);first|refine QB ?_|intro x hx hu|intro h|refine Spp.mk ?_ ?_))
 conv=>whnf
 refine QU QA (fun k:Nat=>k≤l.length) (fun k=>⟨[(0,.d (.fs 1 (l.map stL))),(3,.d (.st (Zm (l.take k)))),(4,.d (.it .i64 k))],[],0⟩) (fun k=>l.length-k) 0 (z7 _) ⟨⟨rfl,rfl,rfl,trivial⟩,trivial,rfl⟩ ?_
 intro k k1
 have hla:(l.map stL).length=l.length:=by simp
 have b1:=Jy (l:=l) k
 have b2:=Jy (l:=l) (k+1)
 have b3:∀x,l[k]? =some x→(Zm (l.take k)).length+(x.length+1)≤1000000:=fun x hx=>by
  rw[Qo hx,QDj,zj,yq]at b2;omega
 (repeat' ((conv=>whnf);first|refine QB ?_|intro x hx hu|intro h|refine Spp.mk ?_ ?_))
 ·have:=b3 x hx
  (repeat' ((conv=>whnf);first|refine QB ?_|intro x hx hu|intro h|refine Spp.mk ?_ ?_))
  refine again (k+1) (by omega) (by dsimp only;omega) (ai rfl (ai (QAG ?_) (ai rfl trivial))) trivial rfl
  rw[Qo hx,QDj,y5];rfl
 ·refine QAG ?_
  rw[XC,if_pos (yv.1 (by simp only[zb]at h;omega))]
 ·refine QAG ?_
  rw[show k=l.length by omega,vd,XC,if_neg (fun h'=>by subst h';exact h rfl)]
theorem QDk{l:List (List UInt8)}(h:l.all Zl=true):∀w∈l,w.length≤8:=fun w hw=>by
 have:=ze.1 h w hw
 simp only[Zl,zf,decide_eq_true_eq]at this
 exact this.1.2.1
theorem Jz(p:List UInt8):(QO p).1.length≤4∧(QO p).1.all Zl=true∧((QO p).1≠[]→(QO p).2=0):=by
 unfold QO
 split
 ·exact ⟨by simp,rfl,fun h=>absurd rfl h⟩
 ·split
  ·exact ⟨by simp,rfl,fun h=>absurd rfl h⟩
  ·split
   ·split
    ·rename_i h;exact⟨h.1,h.2,fun _=>rfl⟩
    ·exact ⟨by simp,rfl,fun h=>absurd rfl h⟩
   ·exact ⟨by simp,rfl,fun h=>absurd rfl h⟩
theorem QB9(p:List UInt8)(hp:p.length≤100000):FnC Tryz.prog 84 [.d (.st p)] (QKz p):=by
 have h1:=XS p hp
 obtain⟨n1,n2,n3⟩:=Jz p
 unfold QKz
 generalize QO p=sp at*
 obtain⟨l,e⟩:=sp
 simp only at n1 n2 n3
 have n4:=QDk n2
 match l with
 |[]=>
  by_cases he:e=0
  ·subst he
   show FnC _ _ _ (QAw [] [] 1)
   refine QL i84 ?_
   (repeat' ((conv=>whnf);first|refine CallE.con ⟨_,h1,?_⟩|refine QB ?_|intro x hx hu|intro h|refine Spp.mk ?_ ?_))
   rfl
  ·simp only[ne_eq,he,not_false_eq_true,if_true]
   refine QL i84 ?_
   (repeat' ((conv=>whnf);first|refine CallE.con ⟨_,h1,?_⟩|refine QB ?_|intro x hx hu|intro h|refine Spp.mk ?_ ?_))
   rfl
 |[a]=>
  obtain rfl:=n3 (by simp)
  replace h1:FnC _ _ _ (.tup [.d (.fs 1 [[.st a]]),.d (.it .i64 0)]):=h1
  have la:=n4 a (by simp)
  show FnC _ _ _ (QAw (XC []) a 0)
  have hj:=Jd [] (by simp[Zm];try omega) (by simp)
  refine QL i84 ?_
  (repeat' ((conv=>whnf);first|refine CallE.con ⟨_,h1,?_⟩|refine ZQ.mk ⟨_,hj,?_⟩|refine QB ?_|intro x hx hu|intro h|refine Spp.mk ?_ ?_))
  rfl
 |[a,b]=>
  obtain rfl:=n3 (by simp)
  replace h1:FnC _ _ _ (.tup [.d (.fs 1 [[.st a],[.st b]]),.d (.it .i64 0)]):=h1
  have la:=n4 a (by simp);have lb:=n4 b (by simp)
  show FnC _ _ _ (QAw (XC [a]) b 0)
  have hj:=Jd [a] (by simp[Zm];try omega) (by simp)
  refine QL i84 ?_
  (repeat' ((conv=>whnf);first|refine CallE.con ⟨_,h1,?_⟩|refine ZQ.mk ⟨_,hj,?_⟩|refine QB ?_|intro x hx hu|intro h|refine Spp.mk ?_ ?_))
  rfl
 |[a,b,c]=>
  obtain rfl:=n3 (by simp)
  replace h1:FnC _ _ _ (.tup [.d (.fs 1 [[.st a],[.st b],[.st c]]),.d (.it .i64 0)]):=h1
  have la:=n4 a (by simp);have lb:=n4 b (by simp);have lc:=n4 c (by simp)
  show FnC _ _ _ (QAw (XC [a,b]) c 0)
  have hj:=Jd [a,b] (by simp[Zm];try omega) (by simp)
  refine QL i84 ?_
  (repeat' ((conv=>whnf);first|refine CallE.con ⟨_,h1,?_⟩|refine ZQ.mk ⟨_,hj,?_⟩|refine QB ?_|intro x hx hu|intro h|refine Spp.mk ?_ ?_))
  rfl
 |[a,b,c,d]=>
  obtain rfl:=n3 (by simp)
  replace h1:FnC _ _ _ (.tup [.d (.fs 1 [[.st a],[.st b],[.st c],[.st d]]),.d (.it .i64 0)]):=h1
  have la:=n4 a (by simp);have lb:=n4 b (by simp);have lc:=n4 c (by simp);have ld:=n4 d (by simp)
  show FnC _ _ _ (QAw (XC [a,b,c]) d 0)
  have hj:=Jd [a,b,c] (by simp[Zm];try omega) (by simp)
  refine QL i84 ?_
  (repeat' ((conv=>whnf);first|refine CallE.con ⟨_,h1,?_⟩|refine ZQ.mk ⟨_,hj,?_⟩|refine QB ?_|intro x hx hu|intro h|refine Spp.mk ?_ ?_))
  rfl
 |a::b::c::d::e::r=>simp at n1
theorem Y2(l:List (List UInt8))(hn:l.length≤1000000)(hl:(Lib.join l [47]).length≤1000000):FnC Tryz.prog 226 [.d (.fs 1 (l.map stL))] (.d (.st (47::Lib.join l [47]))):=by
 refine QL QT0 ?_
 (repeat' ((conv=>whnf);first|refine CallE.con ⟨_,QOb l [47] hn (by omega),?_⟩|refine QB ?_|intro x hx hu|intro h|refine Spp.mk ?_ ?_))
 rfl
theorem QDG{a b x:List UInt8}(h:a=b):AV.tup [.d (.st a),.d (.st x),.d (.it .i64 0)]=QAw b x 0:=by rw[h];rfl
theorem QIk(p:List UInt8)(hp:p.length≤100000):FnC Tryz.prog 181 [.d (.st p)] (QKz p):=by
 have h1:=Z7 p hp
 obtain⟨n1,n2,n3⟩:=Jz p
 unfold QKz
 generalize QO p=sp at*
 obtain⟨l,e⟩:=sp
 simp only at n1 n2 n3
 have n4:=QDk n2
 match l with
 |[]=>
  by_cases he:e=0
  ·subst he
   show FnC _ _ _ (QAw [] [] 1)
   refine QL QKs ?_
   (repeat' ((conv=>whnf);first|refine CallE.con ⟨_,h1,?_⟩|refine QB ?_|intro x hx hu|intro h|refine Spp.mk ?_ ?_))
   rfl
  ·simp only[ne_eq,he,not_false_eq_true,if_true]
   refine QL QKs ?_
   (repeat' ((conv=>whnf);first|refine CallE.con ⟨_,h1,?_⟩|refine QB ?_|intro x hx hu|intro h|refine Spp.mk ?_ ?_))
   rfl
 |[a]=>
  obtain rfl:=n3 (by simp)
  replace h1:FnC _ _ _ (.tup [.d (.fs 1 [[.st a]]),.d (.it .i64 0)]):=h1
  have la:=n4 a (by simp)
  show FnC _ _ _ (QAw (XC []) a 0)
  have hj:=Y2 [] (by simp) (by simp[Lib.join,List.intercalate];try omega)
  refine QL QKs ?_
  (repeat' ((conv=>whnf);first|refine CallE.con ⟨_,h1,?_⟩|refine ZQ.mk ⟨_,hj,?_⟩|refine QB ?_|intro x hx hu|intro h|refine Spp.mk ?_ ?_))
  exact(QDG (x:=a) (show 47::Lib.join [] [47]=XC [] by simp[XC,Zm,Lib.join,List.intercalate]):_)
 |[a,b]=>
  obtain rfl:=n3 (by simp)
  replace h1:FnC _ _ _ (.tup [.d (.fs 1 [[.st a],[.st b]]),.d (.it .i64 0)]):=h1
  have la:=n4 a (by simp);have lb:=n4 b (by simp)
  show FnC _ _ _ (QAw (XC [a]) b 0)
  have hj:=Y2 [a] (by simp) (by simp[Lib.join,List.intercalate];try omega)
  refine QL QKs ?_
  (repeat' ((conv=>whnf);first|refine CallE.con ⟨_,h1,?_⟩|refine ZQ.mk ⟨_,hj,?_⟩|refine QB ?_|intro x hx hu|intro h|refine Spp.mk ?_ ?_))
  exact(QDG (x:=b) (show 47::Lib.join [a] [47]=XC [a] by simp[XC,Zm,Lib.join,List.intercalate]):_)
 |[a,b,c]=>
  obtain rfl:=n3 (by simp)
  replace h1:FnC _ _ _ (.tup [.d (.fs 1 [[.st a],[.st b],[.st c]]),.d (.it .i64 0)]):=h1
  have la:=n4 a (by simp);have lb:=n4 b (by simp);have lc:=n4 c (by simp)
  show FnC _ _ _ (QAw (XC [a,b]) c 0)
  have hj:=Y2 [a,b] (by simp) (by simp[Lib.join,List.intercalate];try omega)
  refine QL QKs ?_
  (repeat' ((conv=>whnf);first|refine CallE.con ⟨_,h1,?_⟩|refine ZQ.mk ⟨_,hj,?_⟩|refine QB ?_|intro x hx hu|intro h|refine Spp.mk ?_ ?_))
  exact(QDG (x:=c) (show 47::Lib.join [a,b] [47]=XC [a,b] by simp[XC,Zm,Lib.join,List.intercalate]):_)
 |[a,b,c,d]=>
  obtain rfl:=n3 (by simp)
  replace h1:FnC _ _ _ (.tup [.d (.fs 1 [[.st a],[.st b],[.st c],[.st d]]),.d (.it .i64 0)]):=h1
  have la:=n4 a (by simp);have lb:=n4 b (by simp);have lc:=n4 c (by simp);have ld:=n4 d (by simp)
  show FnC _ _ _ (QAw (XC [a,b,c]) d 0)
  have hj:=Y2 [a,b,c] (by simp) (by simp[Lib.join,List.intercalate];try omega)
  refine QL QKs ?_
  (repeat' ((conv=>whnf);first|refine CallE.con ⟨_,h1,?_⟩|refine ZQ.mk ⟨_,hj,?_⟩|refine QB ?_|intro x hx hu|intro h|refine Spp.mk ?_ ?_))
  exact(QDG (x:=d) (show 47::Lib.join [a,b,c] [47]=XC [a,b,c] by simp[XC,Zm,Lib.join,List.intercalate]):_)
 |a::b::c::d::e::r=>simp at n1
theorem QIl(a b:List UInt8):QD (a++b)=QD a++QD b:=by simp[QD]
end Go.Proofs.YtikgcbioagmkkaaGreatDoor
namespace Go.Proofs.YtikgcbioagmkkaaGreatDoor
open Go.RowKit
def QL7:Prop:=∀(B b:Nat) (bs cs:List Value) (a:Addr) (n c:Nat) (w:World),Lib.IsBuffer 232 5 B b bs w→B≤w.heap.size→(∀v∈bs,v.oneCell'=true)→cs.length=n→a.block<B→
 (∀j v,cs[j]? =some v→w.cell? (a.add j)=some v)→(∀v∈cs,v.oneCell'=true)→bs.length+n≤140737488355328→
 Calls Tryz.prog 172 #[.pointer (some ⟨b,0,none⟩),.slice (some a) n c] w fun e w'=>e= .returned (.tuple #[.int .i64 n,.nilIface])∧Lib.IsBuffer 232 5 B b (bs++cs) w'∧Below B w w'
def QL8:Prop:=∀(B b:Nat) (bs:List Value) (w:World),Lib.IsBuffer 232 5 B b bs w→
 Calls Tryz.prog 173 #[.pointer (some ⟨b,0,none⟩)] w fun e w'=>∃v,e= .returned v∧w'.ownsRow B 5 1 v bs.length bs∧∃n,w'=w.drewN n
theorem QIm(w:World)(bk off:Nat)(xs:List UInt8)(k len:Nat)(hk:k<len)(hx:xs.length=32*len)(hc:∀j,j<32*len→w.cell? ⟨bk,off+j,none⟩=some (.int .u8 ((xs.getD j 0).toNat:Int))):
  ∀j v,(Lib.byteCells ((xs.drop (32*k)).take 32))[j]? =some v→w.cell? ((⟨bk,off+k*32,none⟩:Addr).add j)=some v:=by
 intro j v hj
 have hl:((xs.drop (32*k)).take 32).length=32:=by rw[List.length_take,List.length_drop];omega
 have hjl:j<32:=by
  have h5:=(List.getElem?_eq_some_iff.1 hj).1
  rw[Lib.byteCells_length,hl]at h5;exact h5
 have h1:=hc (32*k+j) (by omega)
 rw[Lib.addr_add,show off+k*32+j=off+(32*k+j) by omega,h1,←hj]
 unfold Lib.byteCells
 rw[List.getElem?_map,List.getElem?_take,if_pos hjl,List.getElem?_drop,List.getD_eq_getElem?_getD,List.getElem?_eq_getElem (by omega)]
 rfl
set_option maxRecDepth 100000 in
theorem QHC(a:Option Addr)(l c m:Nat)(hm:m≤c)(w:World):(Instr.slice 30 (.slice a l c) none (some (.int .i64 (m:Int))) none).run Tryz.prog w= .ok (.slice a m c) w:=by
 refine(run_slice_h (P:=Tryz.prog) w 30 a l c Tryz.underlying30 .i64 m (by omega) (by omega)).trans ?_
 show((sizeOf 5).run Tryz.prog w).andThen _=_
 rw[Tryz.sizeOf5]
 cases a<;>simp[Result.andThen,sliced,Addr.add]
set_option maxRecDepth 1000000 in
theorem QIn(hW:QL7)(hB:QL8)(ad:Option Addr)(bk off len cap:Nat)(xs:List UInt8)(n:Nat)(w:World)(hlen:len≤1000)(hx:xs.length=32*len)(hn:n≤32*len)
  (had:0<len→ad=some ⟨bk,off,none⟩∧bk<w.heap.size) (hc:∀j,j<32*len→w.cell? ⟨bk,off+j,none⟩=some (.int .u8 ((xs.getD j 0).toNat:Int))) (Q:Ending→World→Prop)
  (hC:∀(w3:World) (a:Option Addr) (cap:Nat),Below w.heap.size w w3→w3.ownsRow w.heap.size 5 1 (.slice a (32*len) cap) (32*len) (Lib.byteCells xs)→n≤cap→
   Calls Tryz.prog 125 #[.slice a n cap] w3 fun e w'=>∃r,e= .returned r∧Q (.returned (.tuple #[r,.bool true])) w'):
  Calls Tryz.prog 124 #[.slice ad len cap,.int .i64 n] w Q:=by
 have hn32:¬(32*(len:Int)<(n:Int)):=by omega
 go_enter Tryz.func124,Tryz.ntmps124
 go_wp2
 go_loopw [19] (fun i wr=>∃k:Nat,k≤len∧i= .int .i64 k∧Lib.IsBuffer 232 5 w.heap.size w.heap.size (Lib.byteCells (xs.take (32*k))) wr∧Below w.heap.size w wr) (fun i _=>len-(intOf i).toNat)
 case atStart=>exact⟨0,Nat.zero_le _,rfl,Lib.fresh_isBuffer 232 5 w,(Below.refl _ w).alloc (Nat.le_refl _) _⟩
 case round=>
  obtain⟨k,hk,rfl,hI,hb⟩:=hrel
  rcases Nat.lt_or_ge k len with hkl|hkl
  ·obtain ⟨rfl,hbk⟩:=had (by omega)
   have hl:((xs.drop (32*k)).take 32).length=32:=by rw[List.length_take,List.length_drop];omega
   have hsl:=QIm wr bk off xs k len hkl hx (fun j hj=>(hb.cell (p:=⟨bk,off+j,none⟩) hbk).trans (hc j hj))
   have hk0:(Lib.byteCells (xs.take (32*k))).length+32≤140737488355328:=by rw[Lib.byteCells_length,List.length_take];omega
   have hcall:=hW w.heap.size w.heap.size (Lib.byteCells (xs.take (32*k))) (Lib.byteCells ((xs.drop (32*k)).take 32)) ⟨bk,off+k*32,none⟩ 32 32 wr hI hb.size (Lib.byteCells_one _) (by rw[Lib.byteCells_length,hl]) hbk hsl (Lib.byteCells_one _) hk0
   clear hsl
   go_wp2_with (go_at_call 172;refine hcall.mono ?_;rintro e W1 ⟨rfl,h1,b1⟩)
   refine⟨⟨k+1,by omega,by simp,?_,hb.trans b1⟩,by simp[intOf];omega⟩
   rw[←Lib.byteCells_append,←List.take_add]at h1
   rwa [show 32*(k+1)=32*k+32 by omega]
  ·obtain rfl:k=len:=by omega
   rw[List.take_of_length_le (by omega)]at hI
   have hcall:=hB w.heap.size w.heap.size (Lib.byteCells xs) wr hI
   have hbl:(Lib.byteCells xs).length=32*k:=by rw[Lib.byteCells_length,hx]
   rw[hbl]at hcall
   go_wp2_with (go_at_call 173;refine hcall.mono ?_;rintro e W1 ⟨v,rfl,ho,q,rfl⟩)
   have hb':Below w.heap.size w (wr.drewN q):=hb.trans ⟨rfl,rfl,rfl,Nat.le_refl _,fun _ _=>rfl⟩
   rcases ho with⟨ho1,⟨rfl,h0⟩|⟨gb,c,cur,rfl,ho2,ho3,ho4,ho5,ho6,ho7⟩⟩
   ·have hn0:n=0:=by omega
    subst hn0
    have hcl:=hC (wr.drewN q) none 0 hb' ⟨ho1,.inl ⟨by rw[h0],h0⟩⟩ (Nat.le_refl _)
    have hs5:∀w',(Instr.slice 30 (.slice none 0 0) none (some (.int .i64 ((0:Nat):Int))) none).run Tryz.prog w'= .ok (.slice none 0 0) w':=QHC none 0 0 0 (Nat.le_refl _)
    go_wp2
    rw[hs5]
    go_wp2_with (go_at_call 125;refine hcl.mono ?_;rintro e W2 ⟨r,rfl,hq⟩)
    go_wp2
    exact hq
   ·have hcl:=hC (wr.drewN q) (some ⟨gb,0,none⟩) c hb' ⟨ho1,.inr ⟨gb,c,cur,rfl,ho2,ho3,ho4,ho5,ho6,ho7⟩⟩ (by omega)
    have hnc:n≤c:=by omega
    have hs5:∀w',(Instr.slice 30 (.slice (some ⟨gb,0,none⟩) (32*k) c) none (some (.int .i64 (n:Int))) none).run Tryz.prog w'= .ok (.slice (some ⟨gb,0,none⟩) n c) w':=QHC (some ⟨gb,0,none⟩) (32*k) c n hnc
    go_wp2
    rw[hs5]
    go_wp2_with (go_at_call 125;refine hcl.mono ?_;rintro e W2 ⟨r,rfl,hq⟩)
    go_wp2
    exact hq
end Go.Proofs.YtikgcbioagmkkaaGreatDoor
namespace Go.Proofs
open Go.Shelf
def Tryz.laysM183_ren:Go.Shelf.Ren:=⟨fun|183=>173|n=>n,fun|130=>273|37=>30|0=>0|93=>232|3=>3|5=>5|91=>230|n=>n,fun|n=>n⟩
theorem Tryz.laysM183:Go.Proofs.LaysM.n183 Tryz.prog Tryz.laysM183_ren:= {
 mixed:=by kernel_rfl
 f183:=Tryz.func173.trans (congrArg some (by kernel_rfl))
 t0:=Tryz.underlying0
 a0:=Tryz.isAgg0
 z0:=Tryz.sizeOf0
 v0:=Tryz.zeroValue0
 t3:=Tryz.underlying3
 a3:=Tryz.isAgg3
 z3:=Tryz.sizeOf3
 v3:=Tryz.zeroValue3
 t37:=Tryz.underlying30
 a37:=Tryz.isAgg30
 z37:=Tryz.sizeOf30
 v37:=Tryz.zeroValue30
 t93:=Tryz.underlying232
 a93:=Tryz.isAgg232
 z93:=Tryz.sizeOf232
 v93:=Tryz.zeroValue232
 t130:=Tryz.underlying273
 a130:=Tryz.isAgg273
 z130:=Tryz.sizeOf273
 v130:=Tryz.zeroValue273
 t5:=Tryz.underlying5
 a5:=Tryz.isAgg5
 z5:=Tryz.sizeOf5
 v5:=Tryz.zeroValue5
 t91:=Tryz.underlying230
 a91:=Tryz.isAgg230
 z91:=Tryz.sizeOf230
 v91:=Tryz.zeroValue230
 i0:=by kernel_rfl
 i3:=by kernel_rfl
 i5:=by kernel_rfl
 i37:=by kernel_rfl
 i91:=by kernel_rfl
 i93:=by kernel_rfl
 i130:=by kernel_rfl}
open Go.RowKit in
theorem Tryz.Buffer_Bytes(B b:Nat)(bs:List Value)(w:World)(h:Lib.IsBuffer 232 5 B b bs w):
  Calls Tryz.prog 173 #[.pointer (some ⟨b,0,none⟩)] w fun e w'=>∃v,e= .returned v∧w'.ownsRow B 5 1 v bs.length bs∧∃n,w'=w.drewN n:=Any.Buffer_Bytes Tryz.laysM183 B b bs w h
def Tryz.laysM180_ren:Go.Shelf.Ren:=⟨fun|180=>172|251=>220|252=>221|181=>239|184=>240|290=>241|324=>270|n=>n,fun|130=>273|37=>30|3=>3|75=>234|0=>0|93=>232|91=>230|131=>124|4=>4|20=>20|5=>5|80=>321|9=>9|n=>n,fun|14=>0|n=>n⟩
theorem Tryz.laysM180:Go.Proofs.LaysM.n180 Tryz.prog Tryz.laysM180_ren:= {
 mixed:=by kernel_rfl
 f180:=Tryz.func172.trans (congrArg some (by kernel_rfl))
 f181:=Tryz.func239.trans (congrArg some (by kernel_rfl))
 f184:=Tryz.func240.trans (congrArg some (by kernel_rfl))
 f251:=Tryz.func220.trans (congrArg some (by kernel_rfl))
 f252:=Tryz.func221.trans (congrArg some (by kernel_rfl))
 f290:=Tryz.func241.trans (congrArg some (by kernel_rfl))
 f324:=Tryz.func270.trans (congrArg some (by kernel_rfl))
 t0:=Tryz.underlying0
 a0:=Tryz.isAgg0
 z0:=Tryz.sizeOf0
 v0:=Tryz.zeroValue0
 t3:=Tryz.underlying3
 a3:=Tryz.isAgg3
 z3:=Tryz.sizeOf3
 v3:=Tryz.zeroValue3
 t4:=Tryz.underlying4
 a4:=Tryz.isAgg4
 z4:=Tryz.sizeOf4
 v4:=Tryz.zeroValue4
 t20:=Tryz.underlying20
 a20:=Tryz.isAgg20
 z20:=Tryz.sizeOf20
 v20:=Tryz.zeroValue20
 t37:=Tryz.underlying30
 a37:=Tryz.isAgg30
 z37:=Tryz.sizeOf30
 v37:=Tryz.zeroValue30
 t75:=Tryz.underlying234
 a75:=Tryz.isAgg234
 z75:=Tryz.sizeOf234
 v75:=Tryz.zeroValue234
 t91:=Tryz.underlying230
 a91:=Tryz.isAgg230
 z91:=Tryz.sizeOf230
 v91:=Tryz.zeroValue230
 t93:=Tryz.underlying232
 a93:=Tryz.isAgg232
 z93:=Tryz.sizeOf232
 v93:=Tryz.zeroValue232
 t130:=Tryz.underlying273
 a130:=Tryz.isAgg273
 z130:=Tryz.sizeOf273
 v130:=Tryz.zeroValue273
 t131:=Tryz.underlying124
 a131:=Tryz.isAgg124
 z131:=Tryz.sizeOf124
 v131:=Tryz.zeroValue124
 g14:=by kernel_rfl
 t5:=Tryz.underlying5
 a5:=Tryz.isAgg5
 z5:=Tryz.sizeOf5
 v5:=Tryz.zeroValue5
 t9:=Tryz.underlying9
 a9:=Tryz.isAgg9
 z9:=Tryz.sizeOf9
 v9:=Tryz.zeroValue9
 t80:=Tryz.underlying321
 a80:=Tryz.isAgg321
 z80:=Tryz.sizeOf321
 v80:=Tryz.zeroValue321
 i0:=by kernel_rfl
 i3:=by kernel_rfl
 i4:=by kernel_rfl
 i5:=by kernel_rfl
 i9:=by kernel_rfl
 i20:=by kernel_rfl
 i37:=by kernel_rfl
 i75:=by kernel_rfl
 i80:=by kernel_rfl
 i91:=by kernel_rfl
 i93:=by kernel_rfl
 i130:=by kernel_rfl
 i131:=by kernel_rfl
 m14:=by kernel_rfl}
open Go.RowKit in
theorem Tryz.Buffer_Write_k(B b:Nat)(bs cs:List Value)(a:Addr)(n c:Nat)(w:World)(h:Lib.IsBuffer 232 5 B b bs w)(hBw:B≤w.heap.size)(h1:∀v∈bs,v.oneCell'=true)(hn:cs.length=n)(haB:a.block<B)(hsrc:∀j v,cs[j]? =some v→w.cell? (a.add j)=some v)(h1c:∀v∈cs,v.oneCell'=true)(hlim:bs.length+n≤140737488355328):
  Calls Tryz.prog 172 #[.pointer (some ⟨b,0,none⟩),.slice (some a) n c] w fun e w'=>e= .returned (.tuple #[.int .i64 n,.nilIface])∧Lib.IsBuffer 232 5 B b (bs++cs) w'∧Below B w w'∧Lib.OthersKept 5 (some b) w w':=Any.Buffer_Write_k Tryz.laysM180 B b bs cs a n c w h hBw h1 hn haB hsrc h1c hlim
end Go.Proofs
namespace Go.Proofs.YtikgcbioagmkkaaGreatDoor
open Go.Sy
theorem QQc:QL7:=fun B b bs cs a n c w h hBw h1 hn haB hsrc h1c hlim=>
 (Tryz.Buffer_Write_k B b bs cs a n c w h hBw h1 hn haB hsrc h1c hlim).mono fun e w' ⟨a1,a2,a3,_⟩=>⟨a1,a2,a3⟩
theorem QQd:QL8:=fun B b bs w h=>Tryz.Buffer_Bytes B b bs w h
theorem QL9(L:List UInt8)(hL:L.length≤100000):FnC Tryz.prog 125 [.d (.fs 1 (QD L))] (.d (.fs 1 (QD L))):=by
 have hl:(QD L).length=L.length:=QDg L
 by_cases h0:L=[]
 ·subst h0
  refine QL QOQ ?_
  (repeat' ((conv=>whnf);first|refine QB ?_|intro x hx hu|intro h|refine Spp.mk ?_ ?_))
  all_goals exact rfl
 ·have hne:(QD L).isEmpty=false:=by cases L with|nil=>exact absurd rfl h0|cons=>rfl
  refine QL QOQ ?_
  (repeat' ((conv=>whnf);first|with_reducible refine Spl.no hne ?_|refine QB ?_|intro x hx hu|intro h|refine Spp.mk ?_ ?_))
  exact rfl
theorem QK0(l:List (List UInt8)):(l.map QJ).flatten=QJ l.flatten:=by
 unfold QJ;rw[List.map_flatten]
theorem QMA{l:List (List UInt8)}(h:∀s∈l,s.length=32):l.flatten.length=32*l.length:=by
 induction l with
 |nil=>rfl
 |cons a t ih=>rw[vg,zj,h a zu,ih fun s hs=>h s (zr _ hs),yq];omega
theorem QIo{vs:Array Value}{w:World}{Q:Ending→World→Prop}(h:QNa Tryz.prog 125 vs w Q):Calls Tryz.prog 125 vs w Q:=by
 rcases h with⟨_,h⟩|⟨v,w',h,_⟩
 ·exact h
 ·rw [Tryz.call125]at h;cases h
def QF0(F:Nat→Nat→Option Value)(gb:Nat)(xs:List UInt8):Nat→Nat→Option Value:=fun b o=>if b=gb then(if o<xs.length then some (.int .u8 ((xs.getD o 0).toNat:Int))else none)else F b o
theorem QQe(F:Nat→Nat→Option Value)(gb:Nat)(xs:List UInt8)(n cap:Nat)(hn:n≤xs.length)(hc:n≤cap):DR (QF0 F gb xs) (.fs 1 (QD (xs.take n))) (.slice (some ⟨gb,0,none⟩) n cap):=by
 have hl:(QD (xs.take n)).length=n:=by rw[QDg,z1];omega
 have hg:∀i (h:i<(QD (xs.take n)).length),(QD (xs.take n))[i]=[D.it .u8 ((xs.getD i 0).toNat:Int)]:=fun i h=>by
  have hi:i<xs.length:=by omega
  unfold QD
  rw[zy,xj,zk,zi hi]
  rfl
 refine .fs 1 _ gb 0 n cap (fun i _=> .int .u8 ((xs.getD i 0).toNat:Int)) hl hc (fun i h=>by rw[hg i h];rfl) (fun i j hi hj=>?_) (fun i h j hj=>?_)
 ·have hj0:j=0:=by omega
  subst hj0
  unfold QF0
  rw[if_pos rfl,if_pos (by omega)]
  congr 5
  omega
 ·have:=hg i h
  have hj0:j=0:=by rw[this]at hj;simpa using hj
  subst hj0
  have e:(QD (xs.take n))[i][0]=D.it .u8 ((xs.getD i 0).toNat:Int):=by simp only[this,wj]
  rw[e]
  exact .it _ _
theorem QK1(l:List (List UInt8))(n:Int)(hl:∀s∈l,s.length=32)(h4:l.length≤1000)(h0:0≤n)(hn:n≤32*(l.length:Int)):
  FnC Tryz.prog 124 [.d (.fs 32 (l.map QJ)),.d (.it .i64 n)] (.tup [.d (.fs 1 (QD (l.flatten.take n.toNat))),.d (.bl true)]):=by
 refine⟨rfl,fun g w vs hfz _ hsz hav=> .inl ⟨Tryz.call124 vs w,?_⟩⟩
 have hx:=QMA hl
 have hN:n=((n.toNat:Nat):Int):=by omega
 have hm:n.toNat≤32*l.length:=by omega
 generalize n.toNat=m at*
 subst hN
 have h1:=hav 0 (Nat.zero_lt_succ _)
 have h2:=hav 1 (Nat.one_lt_succ_succ 0)
 rw[QQU hsz]
 generalize vs.getD 0 undef=v0 at*
 generalize vs.getD 1 undef=v1 at*
 obtain rfl:v1= .int .i64 (m:Int):=by cases h2 with|d _ _ h=>cases h;rfl
 obtain⟨ad,bk,off,cap,rfl,had,hc⟩:∃(ad:Option Addr) (bk off cap:Nat),v0= .slice ad l.length cap∧(0<l.length→ad=some ⟨bk,off,none⟩∧bk<w.heap.size)∧
   ∀j,j<32*l.length→w.cell? ⟨bk,off+j,none⟩=some (.int .u8 ((l.flatten.getD j 0).toNat:Int)):=by
  have h1':DR g.F (.fs 32 (l.map QJ)) v0:=by cases h1 with|d _ _ h=>exact h
  have hml:(l.map QJ).length=l.length:=zb ..
  generalize he:l.map QJ=es at*
  cases h1' with
  |fs0 _ a cap=>
   obtain rfl:l=[]:=by cases l with|nil=>rfl|cons=>cases he
   exact⟨a,0,0,cap,rfl,fun h=>absurd h (by decide),fun j hj=>by simp at hj⟩
  |fs _ _ b off len cap us hlen hcap hs hF hr=>
   have hcell:∀j,j<32*l.length→w.cell? ⟨b,off+j,none⟩=some (.int .u8 ((l.flatten.getD j 0).toNat:Int)):=by
    intro j hj
    have hi:j/32<es.length:=by omega
    have hjl:j % 32<es[j/32].length:=by rw[hs _ hi];omega
    have e1:=hF (j/32) (j % 32) (by omega) (by omega)
    have e2:=hr (j/32) hi (j % 32) hjl
    have e3:=QBu (fun x hx=>by obtain⟨i,hi,rfl⟩:=vu hx;exact hs i hi) (j/32) (j % 32) hi hjl
    have e0:es.flatten=QJ l.flatten:=by rw[←he];exact QK0 l
    rw[e0,show j/32*32+j % 32=j by omega]at e3
    unfold QJ at e3
    rw[yr,zi (by omega)]at e3
    have e4:=za e3
    rw[←e4]at e2
    rw[show off+j/32*32+j % 32=off+j by omega]at e1
    rw[hfz _ _ _ e1]
    generalize us (j/32) (j % 32)=u at*
    cases e2
    rw[zk,zi (by omega)]
    rfl
   obtain rfl:len=l.length:=by omega
   refine⟨some ⟨b,off,none⟩,b,off,cap,rfl,fun h=>⟨rfl,?_⟩,hcell⟩
   exact ww w _ (hcell 0 (by omega))
 refine QIn QQc QQd ad bk off l.length cap l.flatten m w (by omega) hx hm had hc _ fun w3 a cap3 hb ho hmc=>?_
 have hcl:=QL9 (l.flatten.take m) (by rw[z1];omega)
 have key:∃g2:Gh,(∀b o v,g.F b o=some v→g2.F b o=some v)∧(∀b o v,g2.F b o=some v→g.F b o=some v∨w.heap.size≤b)∧(∀b o v,g2.F b o=some v→w3.cell? ⟨b,o,none⟩=some v)∧DR g2.F (.fs 1 (QD (l.flatten.take m))) (.slice a m cap3):=by
  rcases ho with⟨ho1,⟨e,h0'⟩|⟨gb,c,cur,e,ho2,ho3,ho4,ho5,ho6,ho7⟩⟩
  ·obtain rfl:m=0:=by omega
   exact⟨g,fun _ _ _ h=>h,fun _ _ _ h=> .inl h,fun b o v h=>(hb.cell (p:=⟨b,o,none⟩) (ww w _ (hfz b o v h))).trans (hfz b o v h),.fs0 1 _ _⟩
  ·cases e
   have hold:∀b o v,g.F b o=some v→b<w.heap.size:=fun b o v h=>ww w _ (hfz b o v h)
   refine⟨{g with F:=QF0 g.F gb l.flatten},fun b o v h=>?_,fun b o v h=>?_,fun b o v h=>?_,QQe g.F gb l.flatten m cap3 (by omega) hmc⟩
   ·have:=hold b o v h
    show QF0 g.F gb l.flatten b o=some v
    unfold QF0
    rw[if_neg (by omega)];exact h
   ·have h:QF0 g.F gb l.flatten b o=some v:=h
    unfold QF0 at h
    by_cases hbg:b=gb
    ·right;omega
    ·rw [if_neg hbg]at h;exact .inl h
   ·have h':QF0 g.F gb l.flatten b o=some v:=h
    clear h
    unfold QF0 at h'
    by_cases hbg:b=gb
    ·rw [if_pos hbg]at h'
     by_cases hol:o<l.flatten.length
     ·rw [if_pos hol]at h'
      obtain rfl:=za h'
      subst hbg
      rw[Lib.cell_of_heap ho3]
      have this:(cur.toList.take (32*l.length*1))[o]? =(Lib.byteCells l.flatten)[o]? :=by rw[ho7]
      rw[x4,if_pos (by omega)]at this
      rw[show cur[o]? =cur.toList[o]? from(Array.getElem?_toList ..).symm,this]
      unfold Lib.byteCells
      rw[yr,zk,zi hol]
      rfl
     ·rw [if_neg hol]at h';cases h'
    ·rw [if_neg hbg]at h'
     exact(hb.cell (p:=⟨b,o,none⟩) (hold b o v h')).trans (hfz b o v h')
 obtain⟨g2,k1,k2,k3,k4⟩:=key
 refine(QIo (hcl.run g2 w3 #[.slice a m cap3] k3 (fun b hb=>by cases hb) rfl (fun j hj=>?_))).mono ?_
 ·have hj0:j=0:=by simp at hj;omega
  subst hj0
  exact .d _ _ k4
 ·rintro e w' ⟨r,g',rfl,q1,q2,q3,q4,q5,q6,q7,q8,q9⟩
  refine⟨r,rfl,_,g',rfl,?_,fun b o v h=>q2 _ _ _ (k1 _ _ _ h),fun b o v h=>?_,q4,x6 hb.size q5,fun b h=>(q6 b (Nat.lt_of_lt_of_le h hb.size)).trans (hb.block b h),q7.trans hb.os,q8.trans hb.tape,q9.trans hb.output⟩
  ·refine .tup _ _ rfl fun j hj=>?_
   have hj2:j=0∨j=1:=by simp at hj;omega
   rcases hj2 with rfl|rfl
   ·exact q1
   ·exact .d _ _ (.bl true)
  ·rcases q3 b o v h with h|h
   ·exact k2 _ _ _ h
   ·exact .inr (x6 hb.size h)
end Go.Proofs.YtikgcbioagmkkaaGreatDoor
