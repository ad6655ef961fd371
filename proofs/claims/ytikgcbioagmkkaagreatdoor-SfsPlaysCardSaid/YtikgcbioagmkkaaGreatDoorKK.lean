/- Contracts of the functions that the law reaches, and the law. Conditions: none. -/
import Derived.Test.YtikgcbioagmkkaaGreatDoorKD
import Derived.Test.YtikgcbioagmkkaaGreatDoorKC
import Derived.Test.YtikgcbioagmkkaaGreatDoorSD
import Derived.Test.YtikgcbioagmkkaaGreatDoorKA
import Derived.Test.YtikgcbioagmkkaaGreatDoorKB
import Derived.Test.YtikgcbioagmkkaaGreatDoorSE
set_option maxRecDepth 100000
set_option linter.all false
set_option maxHeartbeats 16000000
namespace Go.Proofs.YtikgcbioagmkkaaGreatDoor
open Go.Sy
section
variable {R:List Bool} {n:Nat} {b:Bool} {ty:Ty} {off i j:Nat}
theorem ldR(hb:R[n]? =some b)(ha:ty.kd.agg=false)(ho:off=0+n*1):ldA ty off ((R.map D.bl).map AV.d)= .d (.bl b):=by
 subst ho
 unfold ldA
 rw[ha,cond_false,zk,yr,yr,show 0+n*1=n by omega,hb];rfl
theorem QSd(h:R.length=16)(ha:ty.kd.agg=true)(hz:ty.size=16):ldA ty 0 ((R.map D.bl).map AV.d)= .dg 16 (R.map D.bl):=by
 unfold ldA
 rw[ha,cond_true,hz,vr,yb (by simp[h])]
 unfold QEp
 rw[JK]
theorem QSe(h:R.length=16){a:List AV}(hx:a=(R.map D.bl).map AV.d)(ha:ty.kd.agg=true)(hz:ty.size=16):ldA ty 0 a= .dg 16 (R.map D.bl):=by rw[hx];exact QSd h ha hz
theorem stR(hn:n<R.length)(hi:i=0+n*1)(hj:j=i+1):((R.map D.bl).map AV.d).take i++[AV.d (.bl b)]++((R.map D.bl).map AV.d).drop j=((R.set n b).map D.bl).map AV.d:=by
 subst hi hj
 rw[show 0+n*1=n by omega,List.map_set,List.map_set,uz,if_pos (by simpa using hn)];simp
end
def vN(l:List Nat):List (List D):=l.map fun i:Nat=>[.it .i64 (i:Nat)]
theorem QGD(n:Nat)(l:List D):(l.map AV.d).map (AV.down1 n)=l.map AV.d:=by rw[km];rfl
def s1(a:Nat)(i:Nat):List (Nat×AV):=[(a,.d (.it .i64 ((i+1:Nat):Nat)))]
def s2(i k:Nat):List (Nat×AV):=[(5,.d (.it .i64 ((i+1:Nat):Nat))),(6,.d (.it .i64 (k:Nat)))]
theorem QSf{R:List Bool}{k:Nat}{b:Bool}(hb:R[k]? =some b){ty:Ty}(ha:ty.kd.agg=false){j:Nat}(hj:j=k*1):ldD ty ((R.map D.bl).drop j)= .d (.bl b):=by
 subst hj
 unfold ldD
 rw[ha,cond_false,jn,zk,vk,x5,yr,hb];rfl
theorem QPO{R:List Bool}{N:Nat}{ty:Ty}(h:R.length=N)(ha:ty.kd.agg=true)(hz:ty.size=N):ldA ty 0 ((R.map D.bl).map AV.d)= .dg N (R.map D.bl):=by
 unfold ldA
 rw[ha,cond_true,hz,vr,yb (by simp[h])]
 unfold QEp
 rw[JK]
def iR(f:Int→List UInt8)(k:Nat):List Bool:=(List.range 16).map fun n:Nat=>decide (n=0)||(List.range k).any fun j:Nat=>(QI f (j:Nat)).u&&decide ((QI f (j:Nat)).t=(n:Nat))
theorem QDx(f:Int→List UInt8)(k:Nat):(iR f k).length=16:=by unfold iR;rw[zb,xl]
theorem QSg{f:Int→List UInt8}{k:Nat}(h:(QI f (k:Nat)).u=false):iR f (k+1)=iR f k:=by
 unfold iR
 refine j9 fun n _=>?_
 rw[vm,je]
 simp[h]
theorem QM2(f:Int→List UInt8)(k n:Nat)(h:n<(iR f k).length):(iR f k)[n]=(decide (n=0)||(List.range k).any fun j:Nat=>(QI f (j:Nat)).u&&decide ((QI f (j:Nat)).t=(n:Nat))):=by
 simp only[iR,zy,xy]
theorem QQ1{f:Int→List UInt8}{k:Nat}{t:Int}(h:(QI f (k:Nat)).u=true)(ht:(QI f (k:Nat)).t=t)(h0:0≤t∧t<16):iR f (k+1)=(iR f k).set t.toNat true:=by
 refine ve (by rw[vo,QDx,QDx]) fun n h1 h2=>?_
 have e:(List.range (k+1)).any (fun j:Nat=>(QI f (j:Nat)).u&&decide ((QI f (j:Nat)).t=(n:Nat)))=((List.range k).any (fun j:Nat=>(QI f (j:Nat)).u&&decide ((QI f (j:Nat)).t=(n:Nat)))||decide (t=(n:Nat))):=by
  rw[vm,je]
  simp[h,ht]
 rw[vp,QM2,QM2,e]
 by_cases hn:t.toNat=n
 ·rw [if_pos hn,decide_eq_true (show t=((n:Nat):Int) by omega)]
  simp
 ·rw [if_neg hn,decide_eq_false (show¬t=((n:Nat):Int) by omega)]
  simp
theorem QM3(f:Int→List UInt8):iR f 24=(List.range 16).map fun n:Nat=>decide (XZ f (n:Nat)):=by
 unfold iR
 refine j9 fun n _=>?_
 rw[wc,decide_eq_true_eq,wb,decide_eq_true_eq,List.any_eq_true]
 unfold XZ
 constructor
 ·rintro (h|⟨j,hj,h⟩)
  ·exact .inl (by omega)
  ·rw [zf,decide_eq_true_eq]at h
   exact .inr ⟨j,y4.1 hj,h⟩
 ·rintro (h|⟨j,hj,h1,h2⟩)
  ·exact .inl (by omega)
  ·exact .inr ⟨j,y4.2 hj,by rw[zf,decide_eq_true_eq];exact⟨h1,h2⟩⟩
def ioS(E:D)(R:List Bool)(k:Nat):S:=⟨[(0,.d E),(2,.ptr 0 0),(3,.ptr 1 0),(7,.d (.it .i64 (k:Nat)))],[(0,.cells 16 ((F16.map D.bl).map .d)),(1,.cells 16 ((R.map D.bl).map .d))],2⟩
theorem QI3(E:D)(R:List Bool)(k:Nat):(ioS E R k).ok=true:=by
 unfold ioS
 simp only[S.ok,y3,xv,Ob.lt,Xd];rfl
theorem QFH(d:Option Dk)(hd:Xg d):FnC Tryz.prog 194 [.d (Qd d)] (.dg 16 ((iR (rdS d) 24).map D.bl)):=by
 have he:=fun n=>X6 d hd n
 have hRE:=fun k:Nat=>QHP (rdS d) (k:Nat)
 have hn:=fun{k:Nat}=> @QSg (rdS d) k
 have hy:=fun{k:Nat} {t:Int}=> @QQ1 (rdS d) k t
 have hl:=QDx (rdS d)
 have h0:iR (rdS d) 0=true::List.replicate 15 false:=rfl
 generalize iR (rdS d)=J at*
 generalize Qd d=E at*
 refine QL QTq ?_
 (repeat' ((conv=>whnf);first|refine QB ?_|intro x hx hu|intro h|refine Spp.mk ?_ ?_))
 conv=>whnf
 refine QU QA (fun x:Nat×List Bool=>x.1≤24∧x.2=J x.1) (fun|(k,R)=>ioS E R k) (fun x=>24-x.1) (0,true::List.replicate 15 false) ⟨z7 _,h0.symm⟩ ⟨(ai rfl (ai rfl (ai rfl (ai rfl trivial)))),ai (Qi rfl (by with_unfolding_all exact rfl)) (ai (Qi rfl (by with_unfolding_all exact rfl)) trivial),QI3 ..⟩ ?_
 intro⟨k,R⟩ hk0
 have hk:=hk0.1
 have hR:=hk0.2
 dsimp only at hk hR
 have hl1:R.length=16:=by rw[hR,hl]
 by_cases hk24:k<24
 ·have hek:=he (k:Nat)
  have hREk:=hRE k
  have hn:=hn (k:=k)
  have hy:=fun{t:Int}=>hy (k:=k) (t:=t)
  generalize QI (rdS d) (k:Nat)=x at*
  obtain⟨xu,xp,xn,xt⟩:=x
  dsimp only at*
  replace hek:FnC Tryz.prog 113 [.d E,.d (.it .i64 (k:Nat))] (.dg 4 [.bl xu,.it .i64 xp,.st xn,.it .i64 xt]):=hek
  cases xu with
  |false=>
   have hst:=hn rfl
   (repeat' ((conv=>whnf);first|refine cEk hek ?_|refine QB ?_|intro x hx hu|intro h|refine Spp.mk ?_ ?_))
   refine again (k+1,R) ⟨hk24,hR.trans hst.symm⟩ (by first|omega|(dsimp only;omega)) (ai rfl (ai rfl (ai rfl (ai (QQ (by first|omega|(dsimp only;omega))) trivial)))) (ai rfl (ai rfl trivial)) (QI3 ..)
  |true=>
   have hb:1≤xt∧xt<16:=by
    rcases hREk with q|q
    ·cases q.1
    ·exact ⟨q.2.2.2.1,q.2.2.2.2.1⟩
   have hst:=hy rfl rfl ⟨by omega,hb.2⟩
   rw[←hR]at hst
   have htl:xt.toNat<R.length:=by omega
   (repeat' ((conv=>whnf);first|refine cEk hek ?_|refine QB ?_|intro x hx hu|intro h|refine Spp.mk ?_ ?_))
   refine again (k+1,R.set xt.toNat true) ⟨hk24,hst.symm⟩ (by first|omega|(dsimp only;omega)) (ai rfl (ai rfl (ai rfl (ai (QQ (by first|omega|(dsimp only;omega))) trivial)))) (ai rfl (ai (Qi rfl (stR htl rfl rfl)) trivial)) (QI3 ..)
 ·have h24:k=24:=by omega
  rw[h24]at hR
  (repeat' ((conv=>whnf);first|((with_reducible refine ZC ?_);refine AtA.eq (QSd hl1 rfl rfl) ?_)|refine QB ?_|intro x hx hu|intro h|refine Spp.mk ?_ ?_))
  conv=>whnf
  generalize hv:ldA _ 0 _=v
  have hv':v= .dg 16 (R.map D.bl):=by
   rw[←hv]
   refine QSe hl1 ?_ rfl rfl
   show []++_++List.drop (0+16) ((F16.map D.bl).map AV.d)=_
   rw[xg,show List.drop (0+16) ((F16.map D.bl).map AV.d)=[]from rfl,xf]
  rw[hv']
  show AV.dg 16 (R.map D.bl)=_
  rw[hR]
theorem QFI(m:List (List UInt8))(hm:Zx m)(k:Int):FnC Tryz.prog 141 [.d (Q1 m),.d (.it .i64 k)] (.d (.bl (decide ((QI (imS m) k).u=true∧(Qw (imS m) (QI (imS m) k).t).k≠0)))):=by
 have he:=ZT m hm k
 have hi:=Zh m hm (QI (imS m) k).t
 refine QL QTa ?_
 by_cases hu:(QI (imS m) k).u=false
 ·have he':Xe (QI (imS m) k)=[.bl false,.it .i64 (QI (imS m) k).p,.st (QI (imS m) k).n,.it .i64 (QI (imS m) k).t]:=by rw[Xe,hu]
  rw[he']at he
  (repeat' ((conv=>whnf);first|refine cEk he ?_|refine QB ?_|intro x hx hu|intro h|refine Spp.mk ?_ ?_))
  refine ZL (decide_eq_false fun q=>?_).symm
  rw[hu]at q;cases q.1
 ·have hu':(QI (imS m) k).u=true:=by simpa using hu
  have he':Xe (QI (imS m) k)=[.bl true,.it .i64 (QI (imS m) k).p,.st (QI (imS m) k).n,.it .i64 (QI (imS m) k).t]:=by rw[Xe,hu']
  rw[he']at he
  (repeat' ((conv=>whnf);first|refine cEk he ?_|refine cEk hi ?_|refine QB ?_|intro x hx hu|intro h|refine Spp.mk ?_ ?_))
  refine ZL ?_
  show(!((Qw (imS m) (QI (imS m) k).t).k==0))=_
  by_cases h0:(Qw (imS m) (QI (imS m) k).t).k=0
  ·rw [h0,decide_eq_false fun q=>q.2 rfl];rfl
  ·rw [decide_eq_true ⟨hu',h0⟩,beq_eq_false_iff_ne.2 h0];rfl
theorem QDy(m:List (List UInt8))(hm:Zx m)(p:Int)(s:List UInt8):FnC Tryz.prog 121 [.d (Q1 m),.d (.it .i64 p),.d (.st s)] (JC (Yy (imS m) p s)):=by
 have he:=fun k=>ZT m hm k
 have hs:=fun k=>QFI m hm k
 generalize hR:JC (Yy (imS m) p s)=R
 have hRP:R.isP=true:=by rw[←hR];unfold JC;split<;>rfl
 refine FnC.intro QA Tryz.func121 rfl Tryz.ntmps121 Tryz.call121 rfl (bll rfl) hRP ?_
 (repeat' ((conv=>whnf);first|refine QB ?_|intro x hx hu|intro h|refine Spp.mk ?_ ?_))
 conv=>whnf
 refine QU QA (fun k:Nat=>k≤24∧∀j:Nat,j<k→¬QAi (imS m) p s j) (fun k:Nat=>⟨[(0,.d (Q1 m)),(1,.d (.it .i64 p)),(2,.d (.st s)),(8,.d (.it .i64 (k:Nat)))],[],0⟩) (fun k=>24-k) 0 ⟨z7 _,fun j hj=>by omega⟩ ⟨ai rfl (ai rfl (ai rfl (ai rfl trivial))),trivial,rfl⟩ ?_
 intro k hk0
 have k1:=hk0.1
 have k2:=hk0.2
 by_cases hk:k<24
 ·have hek:=he (k:Nat)
  have hsk:=hs (k:Nat)
  have next:¬QAi (imS m) p s k→∀j:Nat,j<k+1→¬QAi (imS m) p s j:=fun hn j hj=>by
   rcases yh j k with hjk|hjk
   ·exact k2 j hjk
   ·obtain rfl:j=k:=by omega
    exact hn
  by_cases hst:(QI (imS m) k).u=true∧(Qw (imS m) (QI (imS m) k).t).k≠0
  ·rw [decide_eq_true hst]at hsk
   (repeat' ((conv=>whnf);first|refine cEk hek ?_|refine cEk hsk ?_|refine QB ?_|intro x hx hu|intro h|refine Spp.mk ?_ ?_))
   ·rw [←hR,QE9 hk ⟨⟨hst.1,by assumption,hst.2⟩,by assumption⟩ k2];rfl
   ·refine again (k+1) ⟨by omega,next fun q=>(by assumption:¬_) q.2⟩ (by dsimp only;omega) (ai rfl (ai rfl (ai rfl (ai (QQ (by omega)) trivial)))) trivial rfl
   ·refine again (k+1) ⟨by omega,next fun q=>(by assumption:¬_) q.1.2.1⟩ (by dsimp only;omega) (ai rfl (ai rfl (ai rfl (ai (QQ (by omega)) trivial)))) trivial rfl
  ·rw [decide_eq_false hst]at hsk
   (repeat' ((conv=>whnf);first|refine cEk hek ?_|refine cEk hsk ?_|refine QB ?_|intro x hx hu|intro h|refine Spp.mk ?_ ?_))
   refine again (k+1) ⟨by omega,next fun q=>hst ⟨q.1.1,q.1.2.2⟩⟩ (by dsimp only;omega) (ai rfl (ai rfl (ai rfl (ai (QQ (by omega)) trivial)))) trivial rfl
 ·have:k=24:=by omega
  subst this
  (repeat' ((conv=>whnf);first|refine QB ?_|intro x hx hu|intro h|refine Spp.mk ?_ ?_))
  rw[←hR,QFA k2];rfl
def XT(f:Int→List UInt8)(p:Int)(last:List UInt8)(k:Nat):Option (List UInt8):=JP last (Zv f p k)
theorem QM4{f:Int→List UInt8}{p:Int}{last:List UInt8}{k:Nat}(h:¬QEf f p k):XT f p last (k+1)=XT f p last k:=by
 unfold XT;rw[QDH h]
theorem QLF{f:Int→List UInt8}{p:Int}{last:List UInt8}{k:Nat}(h:QEf f p k):XT f p last (k+1)=QFD last (XT f p last k) (QI f (k:Nat)).n:=by
 unfold XT JP;rw[QHJ h,uv];rfl
theorem QM5(f:Int→List UInt8)(p:Int)(i:Nat)(hi:i≤(nms f p).length):XT f p (Zc (nms f p) i) 24=(nms f p)[i]? :=by
 refine QOv (QDq (QF6 _)) (fun x=>(J2 x).trans qe) (fun x hx h=>?_) i hi
 have:x∈nms f p:=(J2 x).2 (qe.2 hx)
 have:=QMR f p x this
 rw[h]at this;revert this;decide
def QDz(o:Option (List UInt8)):List UInt8:=o.getD []
theorem QM6(o:Option Nat):(JC o).isP=true:=by cases o<;>rfl
def QUU(E:D)(p:List UInt8)(ns:List (List UInt8)):Nat×Int→S|(k,n)=>⟨[(0,.d E),(1,.d (.st p)),(6,.d (.fs 1 (ns.map stL))),(8,.d (.it .i64 n)),(9,.d (.it .i64 (k:Nat)))],[],0⟩
theorem Jg(m:List (List UInt8))(hm:Zx m)(p:List UInt8)(hp:p.length≤100000):FnC Tryz.prog 65 [.d (Q1 m),.d (.st p)] (QAn (ZI (imS m) p)):=by
 have h1:=XS p hp
 have h2:=fun n=>Zh m hm n
 have h3:=fun n s=>QDy m hm n s
 have h4:=fun k=>ZT m hm k
 unfold ZI
 have hsl:=ZX p
 generalize QO p=q at*
 obtain⟨ns,e⟩:=q
 dsimp only at*
 generalize Q1 m=E at*
 replace h1:FnC Tryz.prog 120 [.d (.st p)] (.tup [.d (.fs 1 (ns.map stL)),.d (.it .i64 e)]):=h1
 have hnl:(ns.map stL).length=ns.length:=zb ..
 by_cases c1:e=0
 ·subst c1
  obtain⟨R,hR⟩:∃R,lkp (imS m) ns 0=R:=⟨_,rfl⟩
  rw[if_pos rfl,hR]
  refine QL i65 ?_
  (repeat' ((conv=>whnf);first|refine cEk h1 ?_|refine CallE.inl ?_|refine QB ?_|intro x hx hu|intro h|refine Spp.mk ?_ ?_))
  conv=>whnf
  refine QU QA (lkI (imS m) ns R) (QUU E p ns) (fun x=>ns.length-x.1) (0,0) ⟨z7 _,hR⟩ ⟨(ai rfl (ai rfl (ai rfl (ai rfl (ai rfl trivial))))),trivial,rfl⟩ ?_
  intro⟨k,n⟩ ⟨hk,hr⟩
  dsimp only at hk hr
  by_cases hkl:k<ns.length
  ·obtain ⟨s,hs⟩:=Qy hkl
   have hdr:ns.drop k=s::ns.drop (k+1):=by
    obtain⟨hk',e⟩:=z6.1 hs
    rw[wn hk',e]
   rw[hdr]at hr
   have e2:=h2 n
   have e3:=h3 n s
   have e4:=h4
   unfold lkp J1 at hr
   generalize Qw (imS m) n=x at*
   obtain⟨kk,z,b0,b1,b2,b3⟩:=x
   dsimp only at*
   replace e2:FnC Tryz.prog 86 [.d E,.d (.it .i64 n)] (.dg 6 [.it .i64 kk,.it .i64 z,.it .i64 b0,.it .i64 b1,.it .i64 b2,.it .i64 b3]):=e2
   by_cases c2:kk=2
   ·subst c2
    rw[if_pos rfl]at hr
    cases hf:Yy (imS m) n s with
    |none=>
     rw[hf]at e3 hr
     replace hr:((0:Int),(4:Int))=R:=hr
     replace e3:FnC Tryz.prog 121 [.d E,.d (.it .i64 n),.d (.st s)] (.tup [.d (.it .i64 0),.d (.bl false)]):=e3
     (repeat' ((conv=>whnf);first|refine cEk e2 ?_|refine cEk e3 ?_|refine CallE.inl ?_|with_reducible refine Zu hs ?_|refine QB ?_|intro x hx hu|intro h|refine Spp.mk ?_ ?_))
     exact congrArg QAn hr
    |some q=>
     rw[hf]at e3 hr
     rw[if_pos rfl]at hr
     replace hr:lkp (imS m) (ns.drop (k+1)) (QI (imS m) (q:Nat)).t=R:=hr
     replace e3:FnC Tryz.prog 121 [.d E,.d (.it .i64 n),.d (.st s)] (.tup [.d (.it .i64 (q:Nat)),.d (.bl true)]):=e3
     have e4:=e4 (q:Nat)
     generalize QI (imS m) (q:Nat)=y at*
     obtain⟨yu,yp,yn,yt⟩:=y
     replace e4:FnC Tryz.prog 85 [.d E,.d (.it .i64 (q:Nat))] (.dg 4 [.bl yu,.it .i64 yp,.st yn,.it .i64 yt]):=e4
     (repeat' ((conv=>whnf);first|refine cEk e2 ?_|refine cEk e3 ?_|refine cEk e4 ?_|refine CallE.inl ?_|with_reducible refine Zu hs ?_|refine QB ?_|intro x hx hu|intro h|refine Spp.mk ?_ ?_))
     refine again (k+1,yt) ⟨hkl,hr⟩ (by first|omega|(dsimp only;omega)) (ai rfl (ai rfl (ai rfl (ai rfl (ai (QQ (by first|omega|(dsimp only;omega))) trivial))))) trivial rfl
   ·rw [if_neg c2]at hr
    replace hr:((0:Int),(6:Int))=R:=hr
    (repeat' ((conv=>whnf);first|refine cEk e2 ?_|refine CallE.inl ?_|with_reducible refine Zu hs ?_|refine QB ?_|intro x hx hu|intro h|refine Spp.mk ?_ ?_))
    exact congrArg QAn hr
  ·rw [vf (by omega)]at hr
   (repeat' ((conv=>whnf);first|refine QB ?_|intro x hx hu|intro h|refine Spp.mk ?_ ?_))
   exact congrArg QAn hr
 ·rw [if_neg c1]
  refine QL i65 ?_
  (repeat' ((conv=>whnf);first|refine cEk h1 ?_|refine CallE.inl ?_|refine QB ?_|intro x hx hu|intro h|refine Spp.mk ?_ ?_))
  rfl
theorem QFJ{n k:Nat}{P:Nat→Prop}{hP:∀j,Decidable (P j)}(hk:k<n)(h:P k)(hn:∀j:Nat,j<k→¬P j):((List.range n).find? fun j=> @decide (P j) (hP j))=some k:=by
 refine u7.2 ⟨decide_eq_true h,k,by simpa using hk,by simp,fun j hj=>?_⟩
 simp only[xy]
 simpa using hn j hj
theorem QFK{n:Nat}{P:Nat→Prop}{hP:∀j,Decidable (P j)}(hn:∀j:Nat,j<n→¬P j):((List.range n).find? fun j=> @decide (P j) (hP j))=none:=by
 rw[qc]
 intro j hj
 simpa using hn j (y4.1 hj)
def r1A(E:D)(k:Nat):S:=⟨[(0,.d E),(4,.d (.it .i64 (k:Nat)))],[],0⟩
theorem QPP(m:List (List UInt8))(hm:Zx m):FnC Tryz.prog 76 [.d (Q1 m)] (JC (frI (imS m))):=by
 have h1:=fun n=>QCk m hm n
 have hs:=fun{k:Nat} (hk:k<16) (h:¬XZ (imS m) (k:Nat)) (hn:∀j:Nat,j<k→¬¬XZ (imS m) (j:Nat))=>show frI (imS m)=some k from QFJ hk h hn
 have hz:=fun(hn:∀j:Nat,j<16→¬¬XZ (imS m) (j:Nat))=>show frI (imS m)=none from QFK hn
 generalize frI (imS m)=r at*
 generalize Q1 m=E at*
 refine QL i76 ?_ (QM6 _)
 (repeat' ((conv=>whnf);first|refine QB ?_|intro x hx hu|intro h|refine Spp.mk ?_ ?_))
 conv=>whnf
 refine QU QA (fun k:Nat=>k≤16∧∀j:Nat,j<k→¬¬XZ (imS m) (j:Nat)) (r1A E) (fun k=>16-k) 0 ⟨z7 _,fun j hj=>by omega⟩ ⟨(ai rfl (ai rfl trivial)),trivial,rfl⟩ ?_
 intro k hk0
 have hk:=hk0.1
 have hno:=hk0.2
 by_cases hk16:k<16
 ·have e1:=h1 (k:Nat)
  by_cases ht:XZ (imS m) (k:Nat)
  ·rw [decide_eq_true ht]at e1
   (repeat' ((conv=>whnf);first|refine cEk e1 ?_|refine QB ?_|intro x hx hu|intro h|refine Spp.mk ?_ ?_))
   refine again (k+1) ⟨hk16,fun j hj=>?_⟩ (by first|omega|(dsimp only;omega)) (ai rfl (ai (QQ (by omega)) trivial)) trivial rfl
   rcases yh j k with h|h
   ·exact hno j h
   ·rw [show j=k by omega];exact fun x=>x ht
  ·rw [decide_eq_false ht]at e1
   have hth:=hs hk16 ht hno
   (repeat' ((conv=>whnf);first|refine cEk e1 ?_|refine QB ?_|intro x hx hu|intro h|refine Spp.mk ?_ ?_))
   exact(congrArg JC hth).symm
 ·have hth:=hz fun j hj=>hno j (by omega)
  (repeat' ((conv=>whnf);first|refine QB ?_|intro x hx hu|intro h|refine Spp.mk ?_ ?_))
  exact(congrArg JC hth).symm
theorem QHd(m:List (List UInt8))(hm:Zx m):FnC Tryz.prog 77 [.d (Q1 m)] (JC (frE (imS m))):=by
 have h1:=fun n=>ZT m hm n
 have hs:=fun{k:Nat} (hk:k<24) (h:(QI (imS m) (k:Nat)).u=false) (hn:∀j:Nat,j<k→¬(QI (imS m) (j:Nat)).u=false)=>show frE (imS m)=some k from QFJ hk h hn
 have hz:=fun(hn:∀j:Nat,j<24→¬(QI (imS m) (j:Nat)).u=false)=>show frE (imS m)=none from QFK hn
 generalize frE (imS m)=r at*
 generalize Q1 m=E at*
 refine QL i77 ?_ (QM6 _)
 (repeat' ((conv=>whnf);first|refine QB ?_|intro x hx hu|intro h|refine Spp.mk ?_ ?_))
 conv=>whnf
 refine QU QA (fun k:Nat=>k≤24∧∀j:Nat,j<k→¬(QI (imS m) (j:Nat)).u=false) (r1A E) (fun k=>24-k) 0 ⟨z7 _,fun j hj=>by omega⟩ ⟨(ai rfl (ai rfl trivial)),trivial,rfl⟩ ?_
 intro k hk0
 have hk:=hk0.1
 have hno:=hk0.2
 by_cases hk24:k<24
 ·have e1:=h1 (k:Nat)
  have hs:=fun h=>hs hk24 h hno
  have hn':∀j:Nat,j<k+1→j=k∨¬(QI (imS m) (j:Nat)).u=false:=fun j hj=>by
   rcases yh j k with h|h
   ·exact .inr (hno j h)
   ·exact .inl (by omega)
  have hu:(QI (imS m) (k:Nat)).u=false∨(QI (imS m) (k:Nat)).u=true:=by cases (QI (imS m) (k:Nat)).u<;>simp
  have hup:∀u,(QI (imS m) (k:Nat)).u=u→u=true→∀j:Nat,j<k+1→¬(QI (imS m) (j:Nat)).u=false:=fun u h1 h2 j hj=>by
   rcases hn' j hj with rfl|h
   ·rw [h1,h2];simp
   ·exact h
  have hup:=fun h=>hup _ rfl h
  generalize QI (imS m) (k:Nat)=x at e1 hs hu hup
  obtain⟨xu,xp,xn,xt⟩:=x
  dsimp only at e1 hs hu hup
  replace e1:FnC Tryz.prog 85 [.d E,.d (.it .i64 (k:Nat))] (.dg 4 [.bl xu,.it .i64 xp,.st xn,.it .i64 xt]):=e1
  cases xu with
  |false=>
   have hth:=hs rfl
   (repeat' ((conv=>whnf);first|refine cEk e1 ?_|refine QB ?_|intro x hx hu|intro h|refine Spp.mk ?_ ?_))
   exact(congrArg JC hth).symm
  |true=>
   have hth:=hup rfl
   (repeat' ((conv=>whnf);first|refine cEk e1 ?_|refine QB ?_|intro x hx hu|intro h|refine Spp.mk ?_ ?_))
   exact again (k+1) ⟨hk24,hth⟩ (by first|omega|(dsimp only;omega)) (ai rfl (ai (QQ (by omega)) trivial)) trivial rfl
 ·have hth:=hz fun j hj=>hno j (by omega)
  (repeat' ((conv=>whnf);first|refine QB ?_|intro x hx hu|intro h|refine Spp.mk ?_ ?_))
  exact(congrArg JC hth).symm
def FL(mk:Nat→Bool)(low i:Nat):List Nat:=(List.range' low (i-low)).filter fun j=> !(mk j)
theorem QBe{mk:Nat→Bool}{low i:Nat}(h:low≤i):FL mk low (i+1)=FL mk low i++if mk i=true then []else [i]:=by
 unfold FL
 rw[show i+1-low=(i-low)+1 by omega,List.range'_concat,u9,jo,show low+(i-low)=i by omega]
 congr 1
 cases h:mk i<;>simp[h]
theorem QM7{mk:Nat→Bool}{low i:Nat}(h:low≤i):∀j,∃t,FL mk low (i+j)=FL mk low i++t
 |0=>⟨[],by simp⟩
 |j+1=>by
  obtain⟨t,ht⟩:=QM7 h j
  rw[←wg,QBe (by omega),ht,y5]
  exact⟨_,rfl⟩
theorem QDM{mk:Nat→Bool}{low i all n:Nat}(h:low≤i)(ha:i≤all)(hn:n≤(FL mk low i).length):(FL mk low i).take n=(FL mk low all).take n:=by
 obtain⟨t,ht⟩:=QM7 (mk:=mk) h (all-i)
 rw[show i+(all-i)=all by omega]at ht
 rw[ht,wm hn]
theorem QGE(mk:Nat→Bool)(low i:Nat):(FL mk low i).length≤i-low:=by
 unfold FL
 refine x6 (jt _ _) ?_
 rw[List.length_range'];exact zt _
theorem okC{l:List D}{k N m:Nat}(h:k<m):([(k,Ob.cells N (l.map .d))].all fun p=>Nat.blt p.1 m&&p.2.lt m&&p.2.pl)=true:=by
 simp only[y3,xv,Ob.lt,Ob.pl,Xd,wo]
 simp[h]
theorem ntC{l:List D}{k N:Nat}{st:List Nat}:([(k,Ob.cells N (l.map .d))].all fun p=>p.2.nt st p.1)=true:=by
 simp[Ob.nt,AV.nt1,AV.nt0]
def fiA(f:Nat)(low all n:Nat)(N:Nat)(R:List Bool)(T:Nat→Nat)(i:Nat)(l:List Nat):S:=⟨[(0,.d (.it .i64 (low:Nat))),(1,.d (.it .i64 (all:Nat))),(2,.d (.it .i64 (n:Nat))),(3,.fn (.func f) [] [.ptr 0 0]),(9,.ts 1 (vN l) 4),(10,.d (.it .i64 (i:Nat)))],(0,.cells N ((R.map D.bl).map .d))::(4,.tail 3 true)::Qs 1 [0] T,5⟩
theorem QCH(f:Nat)(low all n:Nat)(N:Nat)(R:List Bool)(T:Nat→Nat)(i:Nat)(l:List Nat):(fiA f low all n N R T i l).ok=true:=by
 unfold fiA
 simp only[S.ok,y3,xv,Ob.lt,Xd];rfl
theorem QGF(l:List (List D))(N:Nat)(R:List Bool)(T:Nat→Nat):(S.mk [(8,.d (.fs 1 l))] ((0,.cells N ((R.map D.bl).map .d))::Qs 1 [0] T) 5).ok=true:=by
 simp only[S.ok,y3,xv,Ob.lt,Xd];rfl
theorem QLG(R:List Bool)(hR:R.length=16)(low all n:Nat)(ha:all≤16)(hn:n≤1000)(hla:low≤all):
  FnH Tryz.prog 196 [.d (.it .i64 (low:Nat)),.d (.it .i64 (all:Nat)),.d (.it .i64 (n:Nat)),.fn (.func 197) [] [.ptr 0 0]] [(0,.cells 16 ((R.map D.bl).map .d))] 1 [0] (.d (.fs 1 (vN ((FL (fun j=>R.getD j false) low all).take n)))) [(0,.cells 16 ((R.map D.bl).map .d))] 1:=by
 have hs:=fun{i:Nat}=> @QBe (fun j=>R.getD j false) low i
 have ht:=fun{i:Nat}=> @QDM (fun j=>R.getD j false) low i all n
 have hfl:=QGE (fun j=>R.getD j false) low
 have h0:FL (fun j=>R.getD j false) low low=[]:=by unfold FL;rw[jx];rfl
 generalize FL (fun j=>R.getD j false) low=F at*
 refine FnH.intro QA Tryz.func196 rfl Tryz.ntmps196 Tryz.call196 rfl (okC (by decide)) (okC (by decide)) (by decide) rfl rfl ntC rfl rfl (fun T=>?_)
 (repeat' ((conv=>whnf);first|refine QB ?_|intro x hx hu|intro h|refine Spp.mk ?_ ?_))
 conv=>whnf
 refine ZB QA (fun x:Nat×List Nat=>low≤x.1∧x.1≤all∧x.2=(F x.1).take n) (fun|(i,l)=>fiA 197 low all n 16 R T i l) (fun x=>all-x.1) (low,[]) ⟨zt _,hla,by rw[h0,jp]⟩ (Wk.en ⟨(ai rfl (ai rfl (ai rfl (ai rfl (ai rfl (ai rfl trivial)))))),(ai rfl (ai rfl (ai rfl (ai rfl trivial)))),QCH ..⟩) ?_
 intro⟨i,l⟩ hi0
 have hi1:=hi0.1
 have hi2:=hi0.2.1
 have hil:=hi0.2.2
 dsimp only at hi1 hi2 hil
 have hll:(vN l).length=l.length:=zb ..
 have hfi:=hfl i
 have hl2:l.length≤n∧l.length≤(F i).length:=by rw[hil,z1];omega
 have hst:n≤l.length∨¬i<all→l=(F all).take n:=fun h=>by
  rcases h with h|h
  ·rw [hil,ht hi1 hi2 (by omega)]
  ·rw [hil,show i=all by omega]
 have hgo:l.length<n→l=F i:=fun h=>by
  rw[hil,z1]at h
  rw[hil,yb (by omega)]
 have hsu:=hs hi1
 have hres:l=(F all).take n→AV.d (.fs 1 (vN l))=AV.d (.fs 1 (vN ((F all).take n))):=fun h=>by rw[h]
 by_cases hia:i<all
 ·obtain ⟨r,hr⟩:=Qy (l:=R) (k:=i) (by omega)
  have hrd:R.getD i false=r:=by rw[zk,hr];rfl
  rw[hrd]at hsu
  by_cases hln:l.length<n
  ·have hlF:=hgo hln
   cases r with
   |true=>
    rw[if_pos rfl,xf]at hsu
    (repeat' ((conv=>whnf);first|((with_reducible refine ZC ?_);refine AtA.eq (ldR hr rfl rfl) ?_)|refine CallE.inl ?_|with_reducible refine CallI.inl QA QR6 rfl ?_|refine QB ?_|intro x hx hu|intro h|refine Spp.mk ?_ ?_))
    all_goals first|(exfalso;omega)|skip
    exact⟨(i+1,l),⟨by omega,hia,by rw[hsu,←hlF,yb (by omega)]⟩,by first|omega|(dsimp only;omega),Wk.en ⟨ai rfl (ai rfl (ai rfl (ai rfl (ai rfl (ai (QQ (by omega)) trivial))))),(ai rfl (ai rfl (ai rfl (ai rfl trivial)))),QCH ..⟩⟩
   |false=>
    rw[if_neg (by simp)]at hsu
    (repeat' ((conv=>whnf);first|((with_reducible refine ZC ?_);refine AtA.eq (ldR hr rfl rfl) ?_)|refine CallE.inl ?_|with_reducible refine CallI.inl QA QR6 rfl ?_|refine QB ?_|intro x hx hu|intro h|refine Spp.mk ?_ ?_))
    all_goals first|(exfalso;omega)|skip
    refine⟨(i+1,l++[i]),⟨by omega,hia,by rw[hsu,←hlF,yb (by rw[zj,xd];omega)]⟩,by first|omega|(dsimp only;omega),Wk.en ⟨ai rfl (ai rfl (ai rfl (ai rfl (ai (QAr ?_) (ai (QQ (by omega)) trivial))))),ai (Qi rfl (QGD ..)) (ai rfl (ai rfl (ai rfl trivial))),QCH ..⟩⟩
    show _=vN (l++[i])
    unfold vN
    rw[yc];rfl
  ·have hth:=hst (.inl (by omega))
   (repeat' ((conv=>whnf);first|refine QB ?_|intro x hx hu|intro h|refine Spp.mk ?_ ?_))
   all_goals first|(exfalso;omega)|skip
   conv=>whnf
   exact⟨⟨[(8,.d (.fs 1 (vN l)))],(0,.cells 16 ((R.map D.bl).map .d))::Qs 1 [0] T,5⟩,Wk.vwL (ai (Vw.ts' rfl) trivial) (ai (VwO.same _) (ai (VwO.same _) (ai (VwO.same _) trivial))) (QGF ..),hres hth,(ai rfl trivial),(ai rfl (ai rfl trivial))⟩
 ·have hth:=hst (.inr hia)
  (repeat' ((conv=>whnf);first|refine QB ?_|intro x hx hu|intro h|refine Spp.mk ?_ ?_))
  all_goals first|(exfalso;omega)|skip
  conv=>whnf
  exact⟨⟨[(8,.d (.fs 1 (vN l)))],(0,.cells 16 ((R.map D.bl).map .d))::Qs 1 [0] T,5⟩,Wk.vwL (ai (Vw.ts' rfl) trivial) (ai (VwO.same _) (ai (VwO.same _) (ai (VwO.same _) trivial))) (QGF ..),hres hth,(ai rfl trivial),(ai rfl (ai rfl trivial))⟩
theorem QLH(R:List Bool)(hR:R.length=25)(low all n:Nat)(ha:all≤25)(hn:n≤1000)(hla:low≤all):
  FnH Tryz.prog 196 [.d (.it .i64 (low:Nat)),.d (.it .i64 (all:Nat)),.d (.it .i64 (n:Nat)),.fn (.func 200) [] [.ptr 0 0]] [(0,.cells 25 ((R.map D.bl).map .d))] 1 [0] (.d (.fs 1 (vN ((FL (fun j=>R.getD j false) low all).take n)))) [(0,.cells 25 ((R.map D.bl).map .d))] 1:=by
 have hs:=fun{i:Nat}=> @QBe (fun j=>R.getD j false) low i
 have ht:=fun{i:Nat}=> @QDM (fun j=>R.getD j false) low i all n
 have hfl:=QGE (fun j=>R.getD j false) low
 have h0:FL (fun j=>R.getD j false) low low=[]:=by unfold FL;rw[jx];rfl
 generalize FL (fun j=>R.getD j false) low=F at*
 refine FnH.intro QA Tryz.func196 rfl Tryz.ntmps196 Tryz.call196 rfl (okC (by decide)) (okC (by decide)) (by decide) rfl rfl ntC rfl rfl (fun T=>?_)
 (repeat' ((conv=>whnf);first|refine QB ?_|intro x hx hu|intro h|refine Spp.mk ?_ ?_))
 conv=>whnf
 refine ZB QA (fun x:Nat×List Nat=>low≤x.1∧x.1≤all∧x.2=(F x.1).take n) (fun|(i,l)=>fiA 200 low all n 25 R T i l) (fun x=>all-x.1) (low,[]) ⟨zt _,hla,by rw[h0,jp]⟩ (Wk.en ⟨(ai rfl (ai rfl (ai rfl (ai rfl (ai rfl (ai rfl trivial)))))),(ai rfl (ai rfl (ai rfl (ai rfl trivial)))),QCH ..⟩) ?_
 intro⟨i,l⟩ hi0
 have hi1:=hi0.1
 have hi2:=hi0.2.1
 have hil:=hi0.2.2
 dsimp only at hi1 hi2 hil
 have hll:(vN l).length=l.length:=zb ..
 have hfi:=hfl i
 have hl2:l.length≤n∧l.length≤(F i).length:=by rw[hil,z1];omega
 have hst:n≤l.length∨¬i<all→l=(F all).take n:=fun h=>by
  rcases h with h|h
  ·rw [hil,ht hi1 hi2 (by omega)]
  ·rw [hil,show i=all by omega]
 have hgo:l.length<n→l=F i:=fun h=>by
  rw[hil,z1]at h
  rw[hil,yb (by omega)]
 have hsu:=hs hi1
 have hres:l=(F all).take n→AV.d (.fs 1 (vN l))=AV.d (.fs 1 (vN ((F all).take n))):=fun h=>by rw[h]
 by_cases hia:i<all
 ·obtain ⟨r,hr⟩:=Qy (l:=R) (k:=i) (by omega)
  have hrd:R.getD i false=r:=by rw[zk,hr];rfl
  rw[hrd]at hsu
  by_cases hln:l.length<n
  ·have hlF:=hgo hln
   cases r with
   |true=>
    rw[if_pos rfl,xf]at hsu
    (repeat' ((conv=>whnf);first|((with_reducible refine ZC ?_);refine AtA.eq (ldR hr rfl rfl) ?_)|refine CallE.inl ?_|with_reducible refine CallI.inl QA QR8 rfl ?_|refine QB ?_|intro x hx hu|intro h|refine Spp.mk ?_ ?_))
    all_goals first|(exfalso;omega)|skip
    exact⟨(i+1,l),⟨by omega,hia,by rw[hsu,←hlF,yb (by omega)]⟩,by first|omega|(dsimp only;omega),Wk.en ⟨ai rfl (ai rfl (ai rfl (ai rfl (ai rfl (ai (QQ (by omega)) trivial))))),(ai rfl (ai rfl (ai rfl (ai rfl trivial)))),QCH ..⟩⟩
   |false=>
    rw[if_neg (by simp)]at hsu
    (repeat' ((conv=>whnf);first|((with_reducible refine ZC ?_);refine AtA.eq (ldR hr rfl rfl) ?_)|refine CallE.inl ?_|with_reducible refine CallI.inl QA QR8 rfl ?_|refine QB ?_|intro x hx hu|intro h|refine Spp.mk ?_ ?_))
    all_goals first|(exfalso;omega)|skip
    refine⟨(i+1,l++[i]),⟨by omega,hia,by rw[hsu,←hlF,yb (by rw[zj,xd];omega)]⟩,by first|omega|(dsimp only;omega),Wk.en ⟨ai rfl (ai rfl (ai rfl (ai rfl (ai (QAr ?_) (ai (QQ (by omega)) trivial))))),ai (Qi rfl (QGD ..)) (ai rfl (ai rfl (ai rfl trivial))),QCH ..⟩⟩
    show _=vN (l++[i])
    unfold vN
    rw[yc];rfl
  ·have hth:=hst (.inl (by omega))
   (repeat' ((conv=>whnf);first|refine QB ?_|intro x hx hu|intro h|refine Spp.mk ?_ ?_))
   all_goals first|(exfalso;omega)|skip
   conv=>whnf
   exact⟨⟨[(8,.d (.fs 1 (vN l)))],(0,.cells 25 ((R.map D.bl).map .d))::Qs 1 [0] T,5⟩,Wk.vwL (ai (Vw.ts' rfl) trivial) (ai (VwO.same _) (ai (VwO.same _) (ai (VwO.same _) trivial))) (QGF ..),hres hth,(ai rfl trivial),(ai rfl (ai rfl trivial))⟩
 ·have hth:=hst (.inr hia)
  (repeat' ((conv=>whnf);first|refine QB ?_|intro x hx hu|intro h|refine Spp.mk ?_ ?_))
  all_goals first|(exfalso;omega)|skip
  conv=>whnf
  exact⟨⟨[(8,.d (.fs 1 (vN l)))],(0,.cells 25 ((R.map D.bl).map .d))::Qs 1 [0] T,5⟩,Wk.vwL (ai (Vw.ts' rfl) trivial) (ai (VwO.same _) (ai (VwO.same _) (ai (VwO.same _) trivial))) (QGF ..),hres hth,(ai rfl trivial),(ai rfl (ai rfl trivial))⟩
def fiS(f:Nat)(low all n:Nat)(E:D)(T:Nat→Nat)(i:Nat)(l:List Nat):S:=⟨[(0,.d (.it .i64 (low:Nat))),(1,.d (.it .i64 (all:Nat))),(2,.d (.it .i64 (n:Nat))),(3,.fn (.func f) [] [.ptr 0 0]),(9,.ts 1 (vN l) 4),(10,.d (.it .i64 (i:Nat)))],(0,.cells 1 [.d E])::(4,.tail 3 true)::Qs 1 [0] T,5⟩
theorem QLI(d:Option Dk)(hd:Xg d)(low all n:Nat)(ha:all≤24)(hn:n≤1000)(hla:low≤all):
  FnH Tryz.prog 196 [.d (.it .i64 (low:Nat)),.d (.it .i64 (all:Nat)),.d (.it .i64 (n:Nat)),.fn (.func 198) [] [.ptr 0 0]] [(0,.cells 1 [.d (Qd d)])] 1 [0] (.d (.fs 1 (vN ((FL (fun j:Nat=>(QI (rdS d) (j:Nat)).u) low all).take n)))) [(0,.cells 1 [.d (Qd d)])] 1:=by
 have hs:=fun{i:Nat}=> @QBe (fun j:Nat=>(QI (rdS d) (j:Nat)).u) low i
 have ht:=fun{i:Nat}=> @QDM (fun j:Nat=>(QI (rdS d) (j:Nat)).u) low i all n
 have hfl:=QGE (fun j:Nat=>(QI (rdS d) (j:Nat)).u) low
 have h0:FL (fun j:Nat=>(QI (rdS d) (j:Nat)).u) low low=[]:=by unfold FL;rw[jx];rfl
 generalize FL (fun j:Nat=>(QI (rdS d) (j:Nat)).u) low=F at*
 refine QR QTr fun T=>?_
 (repeat' ((conv=>whnf);first|refine QB ?_|intro x hx hu|intro h|refine Spp.mk ?_ ?_))
 conv=>whnf
 refine ZB QA (fun x:Nat×List Nat=>low≤x.1∧x.1≤all∧x.2=(F x.1).take n) (fun|(i,l)=>fiS 198 low all n (Qd d) T i l) (fun x=>all-x.1) (low,[]) ⟨zt _,hla,by rw[h0,jp]⟩ Wk.e ?_
 intro⟨i,l⟩ hi0
 have hi1:=hi0.1
 have hi2:=hi0.2.1
 have hil:=hi0.2.2
 dsimp only at hi1 hi2 hil
 have hll:(vN l).length=l.length:=zb ..
 have hfi:=hfl i
 have hl2:l.length≤n∧l.length≤(F i).length:=by rw[hil,z1];omega
 have hst:n≤l.length∨¬i<all→l=(F all).take n:=fun h=>by
  rcases h with h|h
  ·rw [hil,ht hi1 hi2 (by omega)]
  ·rw [hil,show i=all by omega]
 have hgo:l.length<n→l=F i:=fun h=>by
  rw[hil,z1]at h
  rw[hil,yb (by omega)]
 have hsu:=hs hi1
 have hres:l=(F all).take n→AV.d (.fs 1 (vN l))=AV.d (.fs 1 (vN ((F all).take n))):=fun h=>by rw[h]
 by_cases hia:i<all
 ·have he:=X6 d hd (i:Nat)
  generalize QI (rdS d) (i:Nat)=x at*
  obtain⟨r,xp,xn,xt⟩:=x
  dsimp only at*
  replace he:FnC Tryz.prog 113 [.d (Qd d),.d (.it .i64 (i:Nat))] (.dg 4 [.bl r,.it .i64 xp,.st xn,.it .i64 xt]):=he
  by_cases hln:l.length<n
  ·have hlF:=hgo hln
   cases r with
   |true=>
    rw[if_pos rfl,xf]at hsu
    (repeat' ((conv=>whnf);first|refine cEk he ?_|refine CallE.inl ?_|with_reducible refine CallI.inl QA QR7 rfl ?_|refine QB ?_|intro x hx hu|intro h|refine Spp.mk ?_ ?_))
    all_goals first|(exfalso;omega)|skip
    exact⟨(i+1,l),⟨by omega,hia,by rw[hsu,←hlF,yb (by omega)]⟩,by first|omega|(dsimp only;omega),Wk.en ⟨ai rfl (ai rfl (ai rfl (ai rfl (ai rfl (ai (QQ (by omega)) trivial))))),(ai rfl (ai rfl (ai rfl (ai rfl trivial)))),rfl⟩⟩
   |false=>
    rw[if_neg (by simp)]at hsu
    (repeat' ((conv=>whnf);first|refine cEk he ?_|refine CallE.inl ?_|with_reducible refine CallI.inl QA QR7 rfl ?_|refine QB ?_|intro x hx hu|intro h|refine Spp.mk ?_ ?_))
    all_goals first|(exfalso;omega)|skip
    refine⟨(i+1,l++[i]),⟨by omega,hia,by rw[hsu,←hlF,yb (by rw[zj,xd];omega)]⟩,by first|omega|(dsimp only;omega),Wk.en ⟨ai rfl (ai rfl (ai rfl (ai rfl (ai (QAr ?_) (ai (QQ (by omega)) trivial))))),(ai rfl (ai rfl (ai rfl (ai rfl trivial)))),rfl⟩⟩
    show _=vN (l++[i])
    unfold vN
    rw[yc];rfl
  ·have hth:=hst (.inl (by omega))
   (repeat' ((conv=>whnf);first|refine QB ?_|intro x hx hu|intro h|refine Spp.mk ?_ ?_))
   all_goals first|(exfalso;omega)|skip
   conv=>whnf
   exact⟨⟨[(8,.d (.fs 1 (vN l)))],(0,.cells 1 [.d (Qd d)])::Qs 1 [0] T,5⟩,Wk.vwL (ai (Vw.ts' rfl) trivial) (ai (VwO.same _) (ai (VwO.same _) (ai (VwO.same _) trivial))) (rfl),hres hth,(ai rfl trivial),(ai rfl (ai rfl trivial))⟩
 ·have hth:=hst (.inr hia)
  (repeat' ((conv=>whnf);first|refine QB ?_|intro x hx hu|intro h|refine Spp.mk ?_ ?_))
  all_goals first|(exfalso;omega)|skip
  conv=>whnf
  exact⟨⟨[(8,.d (.fs 1 (vN l)))],(0,.cells 1 [.d (Qd d)])::Qs 1 [0] T,5⟩,Wk.vwL (ai (Vw.ts' rfl) trivial) (ai (VwO.same _) (ai (VwO.same _) (ai (VwO.same _) trivial))) (rfl),hres hth,(ai rfl trivial),(ai rfl (ai rfl trivial))⟩
theorem QGG(φ:Nat→Nat)(l:List D):(l.map AV.d).map (AV.ren1 φ)=l.map AV.d:=by rw[km];rfl
theorem QHe(n:Nat):List.range' 0 n=List.range n:=List.range_eq_range'.symm
theorem QA3{α:Type}{p q:α→Bool}:∀ {l:List α},(∀x∈l,p x=q x)→l.find? p=l.find? q
 |[],_=>rfl
 |x::t,h=>by
  rw[Wj,Wj,h x zu,QA3 fun y hy=>h y (zr _ hy)]
theorem QQ2(f:Int→List UInt8):frI f=(FL (fun j=>(iR f 24).getD j false) 0 16).head? :=by
 unfold FL frI
 rw[List.head?_filter,jy,QHe]
 refine QA3 fun j hj=>?_
 have h16:=y4.1 hj
 have e:(iR f 24).getD j false=decide (XZ f (j:Nat)):=by
  rw[QM3,zk,yr,jd h16];rfl
 show decide (¬XZ f (j:Nat))= !((iR f 24).getD j false)
 rw[e]
 show decide (¬XZ f (j:Nat))= !(decide (XZ f (j:Nat)))
 by_cases h:XZ f (j:Nat)
 ·rw [decide_eq_true h,decide_eq_false (fun x=>x h)];rfl
 ·rw [decide_eq_false h,decide_eq_true h];rfl
theorem QQ3(f:Int→List UInt8):frE f=(FL (fun j:Nat=>(QI f (j:Nat)).u) 0 24).head? :=by
 unfold FL frE
 rw[List.head?_filter,jy,QHe]
 refine QA3 fun j hj=>?_
 show decide ((QI f (j:Nat)).u=false)= !((QI f (j:Nat)).u)
 cases (QI f (j:Nat)).u<;>rfl
theorem QPQ(d:Dk)(hd:Xg (some d)):FnC Tryz.prog 156 [.d (Qd (some d))] (JC (frI (rdS (some d)))):=by
 have hi:=QFH (some d) hd
 have hF:=QLG (iR (rdS (some d)) 24) (QDx _ _) 0 16 1 (by decide) (by decide) (by decide)
 rw[QQ2]
 generalize FL (fun j=>(iR (rdS (some d)) 24).getD j false) 0 16=l at*
 generalize iR (rdS (some d)) 24=J at*
 generalize Qd (some d)=E at*
 cases l with
 |nil=>
  replace hF:FnH Tryz.prog 196 [.d (.it .i64 0),.d (.it .i64 16),.d (.it .i64 1),.fn (.func 197) [] [.ptr 0 0]] [(0,.cells 16 ((J.map D.bl).map .d))] 1 [0] (.d (.fs 1 [])) [(0,.cells 16 ((J.map D.bl).map .d))] 1:=hF
  refine QL QRy ?_
  (repeat' ((conv=>whnf);first|refine cEk hi ?_|refine CallE.inl ?_|refine CallI.byH hF [0] (by with_unfolding_all exact rfl) ⟨rfl,by decide,by with_unfolding_all exact rfl⟩ (ai (Qi rfl (by show []++_++[]=_;rw[xg,xf];exact(QGG _ _).symm)) trivial) rfl rfl ?_|with_reducible refine CallI.inl QA QOU rfl ?_|refine QB ?_|intro x hx hu|intro h|refine Spp.mk ?_ ?_))
  rfl
 |cons n t=>
  replace hF:FnH Tryz.prog 196 [.d (.it .i64 0),.d (.it .i64 16),.d (.it .i64 1),.fn (.func 197) [] [.ptr 0 0]] [(0,.cells 16 ((J.map D.bl).map .d))] 1 [0] (.d (.fs 1 [[.it .i64 (n:Nat)]])) [(0,.cells 16 ((J.map D.bl).map .d))] 1:=hF
  refine QL QRy ?_
  (repeat' ((conv=>whnf);first|refine cEk hi ?_|refine CallE.inl ?_|refine CallI.byH hF [0] (by with_unfolding_all exact rfl) ⟨rfl,by decide,by with_unfolding_all exact rfl⟩ (ai (Qi rfl (by show []++_++[]=_;rw[xg,xf];exact(QGG _ _).symm)) trivial) rfl rfl ?_|with_reducible refine CallI.inl QA QOU rfl ?_|refine QB ?_|intro x hx hu|intro h|refine Spp.mk ?_ ?_))
  rfl
theorem QHf(d:Dk)(hd:Xg (some d)):FnC Tryz.prog 157 [.d (Qd (some d))] (JC (frE (rdS (some d)))):=by
 have hF:=QLI (some d) hd 0 24 1 (by decide) (by decide) (by decide)
 rw[QQ3]
 generalize FL (fun j:Nat=>(QI (rdS (some d)) (j:Nat)).u) 0 24=l at*
 generalize Qd (some d)=E at*
 cases l with
 |nil=>
  replace hF:FnH Tryz.prog 196 [.d (.it .i64 0),.d (.it .i64 24),.d (.it .i64 1),.fn (.func 198) [] [.ptr 0 0]] [(0,.cells 1 [.d E])] 1 [0] (.d (.fs 1 [])) [(0,.cells 1 [.d E])] 1:=hF
  refine QL QRz ?_
  (repeat' ((conv=>whnf);first|refine CallE.inl ?_|refine CallI.h hF [0] ?_|with_reducible refine CallI.inl QA QOU rfl ?_|refine QB ?_|intro x hx hu|intro h|refine Spp.mk ?_ ?_))
  rfl
 |cons n t=>
  replace hF:FnH Tryz.prog 196 [.d (.it .i64 0),.d (.it .i64 24),.d (.it .i64 1),.fn (.func 198) [] [.ptr 0 0]] [(0,.cells 1 [.d E])] 1 [0] (.d (.fs 1 [[.it .i64 (n:Nat)]])) [(0,.cells 1 [.d E])] 1:=hF
  refine QL QRz ?_
  (repeat' ((conv=>whnf);first|refine CallE.inl ?_|refine CallI.h hF [0] ?_|with_reducible refine CallI.inl QA QOU rfl ?_|refine QB ?_|intro x hx hu|intro h|refine Spp.mk ?_ ?_))
  rfl
theorem Q2{bad:List Int}{d:Dk}{e:Int}(h:e≠0):runP bad d (e,[])=(d,e):=if_pos h
theorem Z0(bad:List Int)(d:Dk)(l:List Stp):runP bad d (0,l)=Qt bad d l:=if_neg (by simp)
theorem QI4{f:Int→List UInt8}{n:Nat}(h:frI f=some n):n<16:=by
 have:=uw h
 exact y4.1 this
theorem QCI{f:Int→List UInt8}{n:Nat}(h:frE f=some n):n<24:=by
 have:=uw h
 exact y4.1 this
theorem QKC{b:Bool}{bad:List Int}{d:Dk}{N:Nat}(h:Fd bad d N)(p:List UInt8)(hp:p.length≤100000)(kind:Int):
  FnH Tryz.prog 102 [.ptr 5 0,.d (.st p),.d (.it .i64 kind)] (Qm b bad d) 6 [0,5] (.d (.it .i64 (runP bad d (mkP (rdS (some d)) p kind)).2)) (Qm b bad (runP bad d (mkP (rdS (some d)) p kind)).1) 6:=by
 have hP:=QDv d h.ok p hp
 have hI:=QPQ d h.ok
 have hK:=QHf d h.ok
 have hfi:=fun n=>QI4 (f:=rdS (some d)) (n:=n)
 have hfe:=fun n=>QCI (f:=rdS (some d)) (n:=n)
 unfold mkP mkQ
 generalize ZN (rdS (some d)) p=a at*
 generalize frI (rdS (some d))=oi at*
 generalize frE (rdS (some d))=oe at*
 obtain⟨⟨fo,nm,k⟩,e⟩:=a
 have hS:=Y7 ⟨fo,nm,k⟩
 dsimp only
 replace hP:FnC Tryz.prog 144 [.d (.fp 1 [Qd (some d)]),.d (.st p)] (.tup [.dg 3 [.it .i64 fo,.st nm,.it .i64 k],.d (.it .i64 e)]):=hP
 replace hS:FnC Tryz.prog 146 [.dg 3 [.it .i64 fo,.st nm,.it .i64 k]] (.d (.bl (decide (0≤k)))):=hS
 by_cases c1:e=0
 ·subst c1
  rw[if_neg (by simp)]
  by_cases c2:0≤k
  ·rw [if_pos c2,Q2 (by decide)]
   rw[decide_eq_true c2]at hS
   refine QR QIe fun T=>?_
   (repeat' ((conv=>whnf);first|refine cEk hS ?_|refine CallE.inl ?_|with_reducible refine CallI.inl QA i50 rfl ?_|refine rFk hP ?_|refine QB ?_|intro x hx hu|intro h|refine Spp.mk ?_ ?_))
   exact QS
  ·rw [if_neg c2]
   rw[decide_eq_false c2]at hS
   cases oi with
   |none=>
    show FnH _ _ _ _ _ _ (.d (.it .i64 (runP bad d (2,[])).2)) (Qm b bad (runP bad d (2,[])).1) _
    rw[Q2 (by decide)]
    replace hI:FnC Tryz.prog 156 [.d (Qd (some d))] (.tup [.d (.it .i64 0),.d (.bl false)]):=hI
    cases oe with
    |none=>
     replace hK:FnC Tryz.prog 157 [.d (Qd (some d))] (.tup [.d (.it .i64 0),.d (.bl false)]):=hK
     refine QR QIe fun T=>?_
     (repeat' ((conv=>whnf);first|refine cEk hS ?_|refine CallE.inl ?_|with_reducible refine CallI.inl QA i50 rfl ?_|refine rFk hP ?_|refine rFk hI ?_|refine rFk hK ?_|refine QB ?_|intro x hx hu|intro h|refine Spp.mk ?_ ?_))
     exact QS
    |some k=>
     replace hK:FnC Tryz.prog 157 [.d (Qd (some d))] (.tup [.d (.it .i64 (k:Nat)),.d (.bl true)]):=hK
     refine QR QIe fun T=>?_
     (repeat' ((conv=>whnf);first|refine cEk hS ?_|refine CallE.inl ?_|with_reducible refine CallI.inl QA i50 rfl ?_|refine rFk hP ?_|refine rFk hI ?_|refine rFk hK ?_|refine QB ?_|intro x hx hu|intro h|refine Spp.mk ?_ ?_))
     exact QS
   |some n=>
    replace hI:FnC Tryz.prog 156 [.d (Qd (some d))] (.tup [.d (.it .i64 (n:Nat)),.d (.bl true)]):=hI
    cases oe with
    |none=>
     replace hK:FnC Tryz.prog 157 [.d (Qd (some d))] (.tup [.d (.it .i64 0),.d (.bl false)]):=hK
     show FnH _ _ _ _ _ _ (.d (.it .i64 (runP bad d (2,[])).2)) (Qm b bad (runP bad d (2,[])).1) _
     rw[Q2 (by decide)]
     refine QR QIe fun T=>?_
     (repeat' ((conv=>whnf);first|refine cEk hS ?_|refine CallE.inl ?_|with_reducible refine CallI.inl QA i50 rfl ?_|refine rFk hP ?_|refine rFk hI ?_|refine rFk hK ?_|refine QB ?_|intro x hx hu|intro h|refine Spp.mk ?_ ?_))
     exact QS
    |some q=>
     replace hK:FnC Tryz.prog 157 [.d (Qd (some d))] (.tup [.d (.it .i64 (q:Nat)),.d (.bl true)]):=hK
     have hn:=hfi n rfl
     have hq:=hfe q rfl
     dsimp only
     rw[Z0]
     have g1:=QF5 [] (by simp) (n:Nat) (by omega) ⟨kind,0,0,0,0,0⟩ 2 (n:Nat)
     have g2:=QAL [.wr ⟨1+(n:Nat),Zz ⟨kind,0,0,0,0,0⟩,2,(n:Nat),0⟩] (by simp) (q:Nat) (by omega) ⟨true,fo,nm,(n:Nat)⟩ fo
     have g3:=QDp (b:=b) h [.wr ⟨1+(n:Nat),Zz ⟨kind,0,0,0,0,0⟩,2,(n:Nat),0⟩,.wr ⟨17+(q:Nat),Qa ⟨true,fo,nm,(n:Nat)⟩,3,fo,0⟩] (fun s hs=>by
      simp only[zm,xm,or_false]at hs
      rcases hs with rfl|rfl
      ·exact ⟨Xi _,by show(0:Int)≤1+_;omega,by show(1:Int)+_<_;omega⟩
      ·exact ⟨ZO _,by show(0:Int)≤17+_;omega,by show(17:Int)+_<_;omega⟩) (by simp)
     generalize hw1:(⟨1+(n:Nat),Zz ⟨kind,0,0,0,0,0⟩,2,(n:Nat),0⟩:Wr)=w1 at*
     generalize hw2:(⟨17+(q:Nat),Qa ⟨true,fo,nm,(n:Nat)⟩,3,fo,0⟩:Wr)=w2 at*
     rw[xg]at g1
     refine QR QIe fun T=>?_
     (repeat' ((conv=>whnf);first|refine cEk hS ?_|refine CallE.inl ?_|with_reducible refine CallI.inl QA i50 rfl ?_|refine rFk hP ?_|refine rFk hI ?_|refine rFk hK ?_|refine CallI.h g2 [12,13] ?_|refine CallI.hp g3 [0,1,2,3,4,5] ?_|((refine CallI.wk (Wk.nlTs 12 0 1 37 243 (by with_unfolding_all exact rfl) (by with_unfolding_all exact rfl)) ⟨_,_,_,_,_,_,rfl,rfl,rfl,rfl⟩ ?_);refine CallI.h g1 [12,13] ?_)|refine QB ?_|intro x hx hu|intro h|refine Spp.mk ?_ ?_))
     exact QS
 ·rw [if_pos c1,Q2 c1]
  refine QR QIe fun T=>?_
  (repeat' ((conv=>whnf);first|refine cEk hS ?_|refine CallE.inl ?_|with_reducible refine CallI.inl QA i50 rfl ?_|refine rFk hP ?_|refine QB ?_|intro x hx hu|intro h|refine Spp.mk ?_ ?_))
  exact QS
def usK(f:Int→List UInt8)(k:Nat)(b:Int):Bool:=(List.range k).any fun n:Nat=>decide (XZ f (n:Nat))&&decide (b∈Jv (Qw f (n:Nat)))
theorem QM8{f:Int→List UInt8}{k:Nat}(h:¬XZ f (k:Nat))(b:Int):usK f (k+1) b=usK f k b:=by
 unfold usK
 rw[vm,je]
 simp[h]
theorem QKD{f:Int→List UInt8}{k:Nat}(h:XZ f (k:Nat))(b:Int):usK f (k+1) b=(usK f k b||decide (b∈Jv (Qw f (k:Nat)))):=by
 unfold usK
 rw[vm,je]
 simp[h]
def mkS(v:Int→Bool)(R:List Bool)(l:List Int):List Bool:=l.foldl (fun R b=>R.set b.toNat (v b)) R
theorem QGH(v:Int→Bool):∀(l:List Int) (R:List Bool),(mkS v R l).length=R.length
 |[],R=>rfl
 |b::t,R=>by
  show(mkS v (R.set b.toNat (v b)) t).length=_
  rw[QGH v t,vo]
theorem QGI(v:Int→Bool){j:Nat}:∀(l:List Int) (R:List Bool),j<R.length→(∀b∈l,0≤b)→(mkS v R l).getD j false=if(j:Int)∈l then v (j:Nat)else R.getD j false
 |[],R,_,_=>by rw[if_neg (by simp)];rfl
 |b::t,R,hj,hb=>by
  have hb0:=hb b zu
  show(mkS v (R.set b.toNat (v b)) t).getD j false=_
  rw[QGI v t _ (by rw[vo];exact hj) fun x hx=>hb x (zr _ hx)]
  by_cases ht:(j:Int)∈t
  ·rw [if_pos ht,if_pos (zr _ ht)]
  ·rw [if_neg ht,zk,jm]
   by_cases hbj:b.toNat=j
   ·rw [if_pos hbj,if_pos (by omega),if_pos (by rw[show(j:Int)=b by omega];exact zu),show(j:Int)=b by omega];rfl
   ·rw [if_neg hbj,if_neg (by rw[zm];rintro(h|h);omega;exact ht h),zk]
theorem QHg(v:Int→Bool)(R:List Bool)(l:List Int)(b:Int):mkS v R (l++[b])=(mkS v R l).set b.toNat (v b):=by
 unfold mkS
 rw[uv];rfl
theorem QHh{x:Ino}(h:RI x):∀b∈Jv x,0≤b∧b<25:=by
 intro b hb
 unfold Jv at hb
 simp only[zm,xm,or_false]at hb
 rcases h with h|h
 ·rcases hb with rfl|rfl|rfl|rfl<;>omega
 ·rcases hb with rfl|rfl|rfl|rfl<;>omega
theorem QHi{x:Ino}:∀i,i<4→(Jv x)[i]? =some (Q0 x i)
 |0,_=>rfl
 |1,_=>rfl
 |2,_=>rfl
 |3,_=>rfl
 |i+4,h=>by omega
def QFL(b:Int):Bool:=decide (b>0)
def uO(f:Int→List UInt8):List Bool:=(List.range 25).map fun b:Nat=>decide (0<b)&&QDs f (b:Nat)
theorem QSh(f:Int→List UInt8)(j:Nat)(h:j<(uO f).length):(uO f)[j]=(decide (0<j)&&QDs f (j:Nat)):=by simp only[uO,zy,xy]
theorem QSi{f:Int→List UInt8}{R:List Bool}(hl:R.length=25)(h:∀j:Nat,j<25→R.getD j false=(decide (0<j)&&usK f 16 (j:Nat))):R=uO f:=by
 refine ve (by rw[hl];unfold uO;simp) fun j h1 h2=>?_
 rw[QSh]
 rw[hl]at h1
 have:=h j h1
 rw[zk,zi (by omega)]at this
 exact this
def bkS(E:D)(J R:List Bool)(k:Nat):S:=⟨[(0,.d E),(2,.ptr 0 0),(3,.ptr 1 0),(9,.dg 16 (J.map D.bl)),(10,.d (.it .i64 (k:Nat)))],[(0,.cells 25 (((List.replicate 25 false).map D.bl).map .d)),(1,.cells 25 ((R.map D.bl).map .d))],2⟩
theorem QI5(E:D)(J R:List Bool)(k:Nat):(bkS E J R k).ok=true:=by
 unfold bkS
 simp only[S.ok,y3,xv,Ob.lt,Xd];rfl
def QQ4(E:D)(J R:List Bool)(k:Nat)(B:List D)(i:Nat):S:=⟨[(0,.d E),(2,.ptr 0 0),(3,.ptr 1 0),(9,.dg 16 (J.map D.bl)),(10,.d (.it .i64 (k:Nat))),(19,.dg 4 B),(20,.d (.it .i64 (i:Nat)))],[(0,.cells 25 (((List.replicate 25 false).map D.bl).map .d)),(1,.cells 25 ((R.map D.bl).map .d))],2⟩
theorem QKE(E:D)(J R:List Bool)(k:Nat)(B:List D)(i:Nat):(QQ4 E J R k B i).ok=true:=by
 unfold QQ4
 simp only[S.ok,y3,xv,Ob.lt,Xd];rfl
theorem QLJ(d:Option Dk)(hd:Xg d):FnC Tryz.prog 199 [.d (Qd d)] (.dg 25 ((uO (rdS d)).map D.bl)):=by
 have hi:=QFH d hd
 have hJ:=QM3 (rdS d)
 have hJl:=QDx (rdS d) 24
 have he:=fun n=>JM d hd n
 have hRI:=fun n=>QDr (rdS d) n
 generalize iR (rdS d) 24=J at*
 generalize Qd d=E at*
 refine QL QTs ?_
 (repeat' ((conv=>whnf);first|refine cEk hi ?_|refine CallE.inl ?_|refine QB ?_|intro x hx hu|intro h|refine Spp.mk ?_ ?_))
 conv=>whnf
 refine QU QA (fun x:Nat×List Bool=>x.1≤16∧x.2.length=25∧∀j:Nat,j<25→x.2.getD j false=(decide (0<j)&&usK (rdS d) x.1 (j:Nat))) (fun|(k,R)=>bkS E J R k) (fun x=>16-x.1) (0,List.replicate 25 false) ⟨z7 _,rfl,fun j hj=>by rw[zk,Wg,if_pos hj];show false=(_&&false);rw[Bool.and_false]⟩ ⟨(ai rfl (ai rfl (ai rfl (ai rfl (ai rfl trivial))))),ai (Qi rfl (by with_unfolding_all exact rfl)) (ai (Qi rfl (by with_unfolding_all exact rfl)) trivial),QI5 ..⟩ ?_
 intro⟨k,R⟩ hk0
 have hk:=hk0.1
 have hl:=hk0.2.1
 have hR:=hk0.2.2
 dsimp only at hk hl hR
 by_cases hk16:k<16
 ·obtain ⟨r,hr⟩:=Qy (l:=J) (k:=k) (by omega)
  have hrt:r=decide (XZ (rdS d) (k:Nat)):=by
   have:=hr
   rw[hJ,yr,jd hk16]at this
   exact(za this).symm
  cases r with
  |false=>
   have hno:¬XZ (rdS d) (k:Nat):=of_decide_eq_false hrt.symm
   (repeat' ((conv=>whnf);first|((with_reducible refine ZC ?_);refine AtA.eq (QSf hr rfl rfl) ?_)|refine QB ?_|intro x hx hu|intro h|refine Spp.mk ?_ ?_))
   refine again (k+1,R) ⟨hk16,hl,fun j hj=>by rw[QM8 hno];exact hR j hj⟩ (by first|omega|(dsimp only;omega)) (ai rfl (ai rfl (ai rfl (ai rfl (ai (QQ (by first|omega|(dsimp only;omega))) trivial))))) (ai rfl (ai rfl trivial)) (QI5 ..)
  |true=>
   have hyes:XZ (rdS d) (k:Nat):=of_decide_eq_true hrt.symm
   have hx:=he (k:Nat)
   have hxR:=hRI (k:Nat)
   have hus:=fun b=>QKD hyes b
   generalize Qw (rdS d) (k:Nat)=x at*
   have hbr:=QHh hxR
   have hbg:= @QHi x
   have hxe:Za x=[.it .i64 x.k,.it .i64 x.z,.it .i64 x.b0,.it .i64 x.b1,.it .i64 x.b2,.it .i64 x.b3]:=rfl
   rw[hxe]at hx
   (repeat' ((conv=>whnf);first|((with_reducible refine ZC ?_);refine AtA.eq (QSf hr rfl rfl) ?_)|refine cEk hx ?_|refine QB ?_|intro x hx hu|intro h|refine Spp.mk ?_ ?_))
   conv=>whnf
   refine QU QA (fun y:Nat×List Bool=>y.1≤4∧y.2=mkS QFL R ((Jv x).take y.1)) (fun|(i,R')=>QQ4 E J R' k [.it .i64 x.b0,.it .i64 x.b1,.it .i64 x.b2,.it .i64 x.b3] i) (fun y=>4-y.1) (0,R) ⟨z7 _,rfl⟩ ⟨(ai rfl (ai rfl (ai rfl (ai rfl (ai rfl (ai rfl (ai rfl trivial))))))),(ai rfl (ai rfl trivial)),QKE ..⟩ ?_
   intro⟨i,R'⟩ hi0
   have hi4:=hi0.1
   have hR':=hi0.2
   dsimp only at hi4 hR'
   have hl':R'.length=25:=by rw[hR',QGH];exact hl
   by_cases hi44:i<4
   ·have hb:=hbg i hi44
    have hbr':=hbr _ (yj hb)
    have hst:R'.set (Q0 x i).toNat (QFL (Q0 x i))=mkS QFL R ((Jv x).take (i+1)):=by rw[Qo hb,QHg,←hR']
    have htl:(Q0 x i).toNat<R'.length:=by omega
    have hi3:i=0∨i=1∨i=2∨i=3:=by omega
    rcases hi3 with rfl|rfl|rfl|rfl
    all_goals (
     replace hst:R'.set _ _=_:=hst
     simp only[Q0]at hst hbr' htl
     (repeat' ((conv=>whnf);first|refine QB ?_|intro x hx hu|intro h|refine Spp.mk ?_ ?_))
     refine again (_+1,R'.set _ (QFL _)) ⟨by omega,hst⟩ (by first|omega|(dsimp only;omega)) (ai rfl (ai rfl (ai rfl (ai rfl (ai rfl (ai rfl (ai (QQ (by first|omega|(dsimp only;omega))) trivial))))))) (ai rfl (ai (Qi rfl (stR htl rfl rfl)) trivial)) (QKE ..))
   ·have hi:i=4:=by omega
    have hall:(Jv x).take i=Jv x:=by rw[hi];rfl
    rw[hall]at hR'
    (repeat' ((conv=>whnf);first|refine QB ?_|intro x hx hu|intro h|refine Spp.mk ?_ ?_))
    refine again (k+1,R') ⟨hk16,hl',fun j hj=>?_⟩ (by first|omega|(dsimp only;omega)) (ai rfl (ai rfl (ai rfl (ai rfl (ai (QQ (by first|omega|(dsimp only;omega))) trivial))))) (ai rfl (ai rfl trivial)) (QI5 ..)
    rw[hR',QGI QFL _ _ (by omega) (fun b hb=>(hbr b hb).1),hus]
    by_cases hm:((j:Nat):Int)∈Jv x
    ·rw [if_pos hm,decide_eq_true hm,W5,wo]
     unfold QFL
     rw[wc,decide_eq_true_eq,decide_eq_true_eq];omega
    ·rw [if_neg hm,decide_eq_false hm,qi]
     exact hR j hj
 ·have h16:k=16:=by omega
  rw[h16]at hR
  have hfin:=QSi hl hR
  (repeat' ((conv=>whnf);first|((with_reducible refine ZC ?_);refine AtA.eq (QPO hl rfl rfl) ?_)|refine QB ?_|intro x hx hu|intro h|refine Spp.mk ?_ ?_))
  conv=>whnf
  generalize hv:ldA _ 0 _=v
  have hv':v= .dg 25 (R.map D.bl):=by
   rw[←hv]
   refine(congrArg _ (show _=(R.map D.bl).map AV.d by show []++_++[]=_;rw[xg,xf])).trans (QPO hl rfl rfl)
  rw[hv']
  show AV.dg 25 (R.map D.bl)=_
  rw[hfin]
theorem QSj{f:Int→List UInt8}{mk:Nat→Bool}(h:∀j:Nat,1≤j→j<25→mk j=QDs f (j:Nat)):(FL mk 1 25).map (fun i:Nat=>(i:Int))=frA f:=by
 unfold FL frA
 rw[List.range'_eq_map_range,List.filter_map,km]
 have e:(List.range 24).filter ((fun j=> !(mk j))∘fun x=>1+x)=(List.range 24).filter fun i:Nat=> !(QDs f ((i+1:Nat):Int)):=by
  refine List.filter_congr fun i hi=>?_
  have h24:=y4.1 hi
  show(!(mk (1+i)))=_
  rw[h (1+i) (by omega) (by omega),jz]
 show List.map _ ((List.range (25-1)).filter _)=_
 rw[show 25-1=24 from rfl,e]
 refine j9 fun i _=>?_
 show((1+i:Nat):Int)=((i+1:Nat):Int)
 rw[jz]
theorem QSk(l:List Nat):vN l=vI (l.map fun i:Nat=>(i:Int)):=by
 unfold vN vI
 rw[km];rfl
theorem QP9{f:Int→List UInt8}{mk:Nat→Bool}(h:∀j:Nat,1≤j→j<25→mk j=QDs f (j:Nat))(n:Nat):vN ((FL mk 1 25).take n)=vI (frB f n):=by
 rw[QSk,ug,QSj h];rfl
theorem QQ5(f:Int→List UInt8)(j:Nat)(h1:1≤j)(h2:j<25):(uO f).getD j false=QDs f (j:Nat):=by
 unfold uO
 rw[zk,yr,jd h2]
 show(decide (0<j)&&_)=_
 rw[decide_eq_true (by omega),vy]
theorem QQA(n:Nat)(J:List Bool):(AV.dg n (J.map D.bl)).flatP=true:=by
 show(J.map D.bl).all D.flat=true
 rw[ze]
 intro x hx
 obtain⟨b,_,rfl⟩:=yf.1 hx
 rfl
def frV(l:List Int)(n:Nat):AV:=if l.length=n then .tup [.d (.fs 1 (vI l)),.d (.bl true)]else .tup [.d (.fs 1 []),.d (.bl false)]
theorem QM9(l:List Int):(vI l).length=l.length:=zb ..
theorem QKF{b:Bool}{bad:List Int}{d:Dk}{N:Nat}(h:Fd bad d N)(n:Nat)(hn:n≤100):FnH Tryz.prog 158 [.ptr 0 0,.d (.it .i64 (n:Nat))] (Yk b bad d) 5 [0] (frV (frB (rdS (some d)) n) n) (Yk b bad d) 5:=by
 have hi:=QLJ (some d) h.ok
 have hul:(uO (rdS (some d))).length=25:=by unfold uO;simp
 have hF:=QLH (uO (rdS (some d))) hul 1 25 n (by decide) (by omega) (by decide)
 rw[QP9 (QQ5 _) n]at hF
 generalize uO (rdS (some d))=J at*
 have hl:=QM9 (frB (rdS (some d)) n)
 unfold frV
 generalize frB (rdS (some d)) n=l at*
 replace hF:FnH Tryz.prog 196 [.d (.it .i64 1),.d (.it .i64 25),.d (.it .i64 (n:Nat)),.fn (.func 200) [] [.ptr 0 0]] [(0,.cells 25 ((J.map D.bl).map .d))] 1 [0] (.d (.fs 1 (vI l))) [(0,.cells 25 ((J.map D.bl).map .d))] 1:=hF
 by_cases hc:l.length=n
 ·rw [if_pos hc]
  refine QR QR0 fun T=>?_
  (repeat' ((conv=>whnf);first|refine CallE.inl ?_|refine CallI.byR (YU.mkF ⟨_,_,ArF.fr _ _ _ _ (frD (by with_unfolding_all exact rfl) (by with_unfolding_all exact rfl)) ArF.nil,hi,QQA _ _,?_⟩)|refine CallI.byH hF [8] (by with_unfolding_all exact rfl) ⟨rfl,by decide,by with_unfolding_all exact rfl⟩ (ai (Qi rfl (by show []++_++[]=_;rw[xg,xf];exact(QGG _ _).symm)) trivial) rfl rfl ?_|refine QB ?_|intro x hx hu|intro h|refine Spp.mk ?_ ?_))
  all_goals first|(exfalso;omega)|skip
  exact QS
 ·rw [if_neg hc]
  refine QR QR0 fun T=>?_
  (repeat' ((conv=>whnf);first|refine CallE.inl ?_|refine CallI.byR (YU.mkF ⟨_,_,ArF.fr _ _ _ _ (frD (by with_unfolding_all exact rfl) (by with_unfolding_all exact rfl)) ArF.nil,hi,QQA _ _,?_⟩)|refine CallI.byH hF [8] (by with_unfolding_all exact rfl) ⟨rfl,by decide,by with_unfolding_all exact rfl⟩ (ai (Qi rfl (by show []++_++[]=_;rw[xg,xf];exact(QGG _ _).symm)) trivial) rfl rfl ?_|refine QB ?_|intro x hx hu|intro h|refine Spp.mk ?_ ?_))
  all_goals first|(exfalso;omega)|skip
  refine⟨⟨[(4,.d (.fs 1 [])),(5,.d (.bl false))],Yk b bad d++Qs 5 [0] T,30⟩,Wk.vwL (ai (Vw.ts' rfl) (ai (Vw.eq rfl) trivial)) (ai (VwO.same _) (ai (VwO.same _) (ai (VwO.same _) (ai (VwO.same _) (ai (VwO.same _) (ai (VwO.same _) (ai (VwO.same _) trivial))))))) rfl,rfl,(ai rfl (ai rfl (ai rfl (ai rfl (ai rfl trivial))))),(ai rfl (ai rfl trivial))⟩
theorem QD0{s c:List UInt8}{a:Nat}(h:a+c.length≤s.length):((QJ s).map AV.d).take a++(QJ c).map AV.d++((QJ s).map AV.d).drop (a+c.length)=(QJ (QEk s a c)).map AV.d:=by
 unfold QEk QJ
 simp only[yc,ug,u6]
theorem Js{s:List UInt8}{ty:Ty}{a:List AV}(hx:a=(QJ s).map AV.d)(h:s.length=32)(ha:ty.kd.agg=true)(hz:ty.size=32):ldA ty 0 a= .dg 32 (QJ s):=by
 rw[hx]
 unfold ldA
 rw[ha,cond_true,hz,vr,yb (by rw[zb,ZS,h];exact zt _)]
 unfold QEp
 rw[JK]
theorem QHj(c:List UInt8):(QD c).flatten=QJ c:=by
 unfold QD QJ
 induction c with
 |nil=>rfl
 |cons b t ih=>simp only[wy,vg,ih,kp]
theorem QQ6{s c:List UInt8}{a o q:Nat}{C:List AV}(hC:C=(QJ s).map AV.d)(ho:o=a)(hq:q=a+c.length)(h:a+c.length≤s.length):(QJ (QEk s a c)).map AV.d=C.take o++(QD c).flatten.map AV.d++C.drop q:=by
 rw[hC,ho,hq,QHj,QD0 h]
theorem letC_id{e:List AV}{K:List AV→Prop}(h:Zr e K):Zr e K:=h
theorem QPR(s:List UInt8)(hs:s.length=32)(a:Nat)(c:List UInt8)(h:a+c.length≤32):FnC Tryz.prog 159 [.dg 32 (QJ s),.d (.it .i64 (a:Nat)),.d (.fs 1 (QD c))] (.tup [.dg 32 (QJ (QEk s a c)),.d (.bl true)]):=by
 have hl:=QMZ (s:=s) (a:=a) (c:=c) (by omega)
 have hpc:=QD0 (s:=s) (a:=a) (c:=c) (by omega)
 have hbl:(QD c).length=c.length:=zb ..
 have hf:=QFx (a:Nat) ((QD c).length:Nat)
 rw[decide_eq_true (by omega)]at hf
 obtain⟨g,hg⟩:=Zg hs
 subst hg
 refine QL QR1 ?_
 (repeat' ((conv=>whnf);first|refine cEk hf ?_|((with_reducible refine letC_id ?_);refine Zr.mk ((QJ (QEk (Qx g) a c)).map AV.d) (QQ6 (by with_unfolding_all exact rfl) (by show 0+((a:Nat):Int).toNat*1=a;omega) (by show 0+((a:Nat):Int).toNat*1+(QD c).length*1=a+c.length;omega) h) ?_)|((with_reducible refine ZC ?_);refine AtA.eq (Js rfl (hl.trans hs) rfl rfl) ?_)|refine QB ?_|intro x hx hu|intro h|refine Spp.mk ?_ ?_))
 conv=>whnf
 generalize hv:ldA _ 0 _=v
 have hv':v= .dg 32 (QJ (QEk (Qx g) a c)):=by
  rw[←hv]
  refine Js ?_ (hl.trans hs) rfl rfl
  show []++_++[]=_
  rw[xg,xf]
 rw[hv'];rfl
theorem QCn:Xe Q6=[.bl false,.it .i64 0,.st [],.it .i64 0]:=rfl
theorem QBf{f:Int→List UInt8}{p:List UInt8}: -1≤(ZN f p).1.k∧(ZN f p).1.k<24:=by
 unfold ZN QK6
 split
 ·exact ⟨(by decide:(-1:Int)≤0),(by decide:(0:Int)<24)⟩
 ·split
  ·exact ⟨(by decide:(-1:Int)≤0),(by decide:(0:Int)<24)⟩
  ·split
   ·exact ⟨(by decide:(-1:Int)≤0),(by decide:(0:Int)<24)⟩
   ·show-1≤QMS _∧QMS _<24
    cases h:Yy f (ZI f (Zj p).1).1 (Zj p).2.1 with
    |none=>exact⟨by decide,by decide⟩
    |some k=>
     have:=y4.1 (uw h)
     exact⟨by show-1≤(k:Int);omega,by show(k:Int)<24;omega⟩
theorem QEo{x:Ino}(h:RI x):0≤x.z∧x.z≤128:=by
 rcases h with h|h
 ·omega
 ·omega
theorem XU(k:Int)(hk:0≤k∧k<24)(x:Ent)(f:Int):QEh (.wr ⟨17+k,Qa x,3,f,0⟩):=⟨ZO x,(by omega:0≤17+k),(by omega:17+k<65)⟩
theorem QD1(n:Int)(hn:0≤n∧n<16)(x:Ino)(k i:Int):QEh (.wr ⟨1+n,Zz x,k,i,0⟩):=⟨Xi x,(by omega:0≤1+n),(by omega:1+n<65)⟩
theorem QA4(f:Int→List UInt8)(p:List UInt8):0≤(ZJ f p).1∧(ZJ f p).1<16:=by
 unfold ZJ
 split
 ·exact ⟨(by decide:(0:Int)≤0),(by decide:(0:Int)<16)⟩
 ·split
  ·exact ⟨(by decide:(0:Int)≤0),(by decide:(0:Int)<16)⟩
  ·rename_i h
   dsimp only
   have h:(Qw f (ZI f p).1).k=1:=Wx h
   unfold Qw at h
   split at h
   ·assumption
   ·exact absurd h (by decide)
theorem QFM{b:Bool}{bad:List Int}{d:Dk}{N:Nat}(h:Fd bad d N)(p:List UInt8)(hp:p.length≤100000):
  FnH Tryz.prog 73 [.ptr 5 0,.d (.st p)] (Qm b bad d) 6 [0,5] (.d (.it .i64 (runP bad d (QAz (rdS (some d)) p)).2)) (Qm b bad (runP bad d (QAz (rdS (some d)) p)).1) 6:=by
 have hP:=QMc d h.ok p hp
 have hk:=QBf (f:=rdS (some d)) (p:=p)
 have hE:=X6 (some d) h.ok (ZN (rdS (some d)) p).1.k
 have hK:=QBb d h.ok (QI (rdS (some d)) (ZN (rdS (some d)) p).1.k).t
 have hL:=QOp (some d) h.ok (QI (rdS (some d)) (ZN (rdS (some d)) p).1.k).t
 unfold QAz QMV
 generalize ZN (rdS (some d)) p=a at*
 generalize hn:nms (rdS (some d)) (QI (rdS (some d)) a.1.k).t=ns at*
 generalize QI (rdS (some d)) a.1.k=x at*
 generalize (Qw (rdS (some d)) x.t).k=kk at*
 obtain⟨⟨fo,nm,k⟩,e⟩:=a
 obtain⟨xu,xp,xn,xt⟩:=x
 dsimp only at*
 replace hE:FnC Tryz.prog 113 [.d (Qd (some d)),.d (.it .i64 k)] (.dg 4 [.bl xu,.it .i64 xp,.st xn,.it .i64 xt]):=hE
 by_cases c1:e=0
 ·subst c1
  rw[if_neg (by simp)]
  by_cases c2:k<0
  ·rw [if_pos c2,Q2 (by decide)]
   have hP:FnC Tryz.prog 126 [.d (.fp 1 [Qd (some d)]),.d (.st p)] (.tup [.dg 3 [.it .i64 fo,.st nm,.it .i64 k],.d (.it .i64 4)]):=by
    have:=hP
    unfold QK8 at this
    rw[if_pos ⟨rfl,c2⟩]at this
    exact this
   refine QR i73 fun T=>?_
   (repeat' ((conv=>whnf);first|with_reducible refine CallI.inl QA i50 rfl ?_|refine rFk hP ?_|refine QB ?_|intro x hx hu|intro h|refine Spp.mk ?_ ?_))
   exact QS
  ·rw [if_neg c2]
   have hP:FnC Tryz.prog 126 [.d (.fp 1 [Qd (some d)]),.d (.st p)] (.tup [.dg 3 [.it .i64 fo,.st nm,.it .i64 k],.d (.it .i64 0)]):=by
    have:=hP
    unfold QK8 at this
    rw[if_neg (fun x=>c2 x.2)]at this
    exact this
   have g2:=QAL [] (by simp) k (by omega) Q6 fo
   have g3:=QDp (b:=b) h [.wr ⟨17+k,Qa Q6,3,fo,0⟩] (fun s hs=>by
    simp only[zm,xm,or_false]at hs
    rw[hs]
    exact XU k (by omega) _ _) (by simp)
   rw[QCn]at g2
   generalize (⟨17+k,Qa Q6,3,fo,0⟩:Wr)=w1 at*
   rw[xg]at g2
   by_cases c3:kk=2
   ·subst c3
    cases ns with
    |nil=>
     rw[if_neg (by simp),Z0]
     replace hL:FnC Tryz.prog 128 [.d (Qd (some d)),.d (.it .i64 xt)] (.d (.fs 1 [])):=hL
     refine QR i73 fun T=>?_
     (repeat' ((conv=>whnf);first|with_reducible refine CallI.inl QA i50 rfl ?_|refine rFk hP ?_|refine rFk hE ?_|refine rFk hK ?_|refine CallI.byRL (ArF.fr _ _ _ _ (frD (by with_unfolding_all exact rfl) (by with_unfolding_all exact rfl)) (ArF.pl _ _ _ _ rfl .nil)) hL (fun h0=>?_) (fun off cap hpos=>absurd hpos (by decide))|refine CallI.hp g3 [0,1,2,3,4,5] ?_|((refine CallI.wk (Wk.nlTs 12 0 1 37 243 (by with_unfolding_all exact rfl) (by with_unfolding_all exact rfl)) ⟨_,_,_,_,_,_,rfl,rfl,rfl,rfl⟩ ?_);refine CallI.h g2 [12,13] ?_)|refine QB ?_|intro x hx hu|intro h|refine Spp.mk ?_ ?_))
     exact QS
    |cons n0 nt=>
     rw[if_pos ⟨rfl,by simp⟩,Q2 (by decide)]
     refine QR i73 fun T=>?_
     (repeat' ((conv=>whnf);first|with_reducible refine CallI.inl QA i50 rfl ?_|refine rFk hP ?_|refine rFk hE ?_|refine rFk hK ?_|refine CallI.byRL (ArF.fr _ _ _ _ (frD (by with_unfolding_all exact rfl) (by with_unfolding_all exact rfl)) (ArF.pl _ _ _ _ rfl .nil)) hL (fun h0=>by cases h0) (fun off cap hpos=>?_)|refine QB ?_|intro x hx hu|intro h|refine Spp.mk ?_ ?_))
     exact QS
   ·rw [if_neg (by simp[c3]),Z0]
    refine QR i73 fun T=>?_
    (repeat' ((conv=>whnf);first|with_reducible refine CallI.inl QA i50 rfl ?_|refine rFk hP ?_|refine rFk hE ?_|refine rFk hK ?_|refine CallI.hp g3 [0,1,2,3,4,5] ?_|((refine CallI.wk (Wk.nlTs 12 0 1 37 243 (by with_unfolding_all exact rfl) (by with_unfolding_all exact rfl)) ⟨_,_,_,_,_,_,rfl,rfl,rfl,rfl⟩ ?_);refine CallI.h g2 [12,13] ?_)|refine QB ?_|intro x hx hu|intro h|refine Spp.mk ?_ ?_))
    exact QS
 ·rw [if_pos c1,Q2 c1]
  have hP:FnC Tryz.prog 126 [.d (.fp 1 [Qd (some d)]),.d (.st p)] (.tup [.dg 3 [.it .i64 fo,.st nm,.it .i64 k],.d (.it .i64 e)]):=by
   have:=hP
   unfold QK8 at this
   rw[if_neg (fun x=>c1 x.1)]at this
   exact this
  refine QR i73 fun T=>?_
  (repeat' ((conv=>whnf);first|with_reducible refine CallI.inl QA i50 rfl ?_|refine rFk hP ?_|refine QB ?_|intro x hx hu|intro h|refine Spp.mk ?_ ?_))
  exact QS
theorem QNA{b:Bool}{bad:List Int}{d:Dk}{N:Nat}(h:Fd bad d N)(p:List UInt8)(hp:p.length≤100000)(tq:Int):
  FnH Tryz.prog 90 [.ptr 5 0,.d (.st p),.d (.it .i64 tq)] (Qm b bad d) 6 [0,5] (.d (.it .i64 (runP bad d (QBZ (rdS (some d)) p tq)).2)) (Qm b bad (runP bad d (QBZ (rdS (some d)) p tq)).1) 6:=by
 have hP:=JR d h.ok p hp
 have hn:=QA4 (rdS (some d)) p
 have hz:=QEo (XO (rdS (some d)) p)
 unfold QBZ QOy
 generalize ZJ (rdS (some d)) p=q at*
 obtain⟨n,⟨k,z,b0,b1,b2,b3⟩,e⟩:=q
 dsimp only at*
 replace hP:FnC Tryz.prog 103 [.d (.fp 1 [Qd (some d)]),.d (.st p)] (.tup [.d (.it .i64 n),.dg 6 [.it .i64 k,.it .i64 z,.it .i64 b0,.it .i64 b1,.it .i64 b2,.it .i64 b3],.d (.it .i64 e)]):=hP
 by_cases c1:e=0
 ·subst c1
  rw[if_neg (by simp)]
  by_cases c2:tq<0∨z<tq
  ·rw [if_pos c2,Q2 (by decide)]
   refine QR i90 fun T=>?_
   (repeat' ((conv=>whnf);first|refine rFk hP ?_|refine QB ?_|intro x hx hu|intro h|refine Spp.mk ?_ ?_))
   all_goals first|(exfalso;omega)|skip
   all_goals exact QS
  ·rw [if_neg c2]
   by_cases c3:tq=z
   ·subst c3
    rw[if_pos rfl,Z0]
    refine QR i90 fun T=>?_
    (repeat' ((conv=>whnf);first|refine rFk hP ?_|refine QB ?_|intro x hx hu|intro h|refine Spp.mk ?_ ?_))
    all_goals first|(exfalso;omega)|skip
    all_goals exact QS
   ·rw [if_neg c3,Z0]
    have g3:=QDp (b:=b) h [.wr ⟨1+n,Zz (trI ⟨k,z,b0,b1,b2,b3⟩ tq),2,n,0⟩] (fun s hs=>by
     simp only[zm,xm,or_false]at hs
     rw[hs]
     exact QD1 n (by omega) _ _ _) (by simp)
    have g2:=QF5 [] (by simp) n (by omega) (trI ⟨k,z,b0,b1,b2,b3⟩ tq) 2 n
    have hnd:=Yb tq (by omega)
    generalize (⟨1+n,Zz (trI ⟨k,z,b0,b1,b2,b3⟩ tq),2,n,0⟩:Wr)=w1 at*
    rw[xg]at g2
    have c4:(tq+31)/32=0∨(tq+31)/32=1∨(tq+31)/32=2∨(tq+31)/32=3∨(tq+31)/32=4:=by omega
    rcases c4 with c4|c4|c4|c4|c4
    all_goals (
     rw[c4]at hnd
     unfold trI nd at g2
     rw[c4]at g2
     refine QR i90 fun T=>?_
     (repeat' ((conv=>whnf);first|refine cEk hnd ?_|refine CallE.inl ?_|((with_reducible refine JF ?_);refine OpX.clearM QA rfl rfl rfl (by with_unfolding_all exact rfl) rfl (by with_unfolding_all exact rfl) rfl rfl (by with_unfolding_all exact rfl) (by with_unfolding_all exact rfl) (by decide) (by decide) ?_)|refine rFk hP ?_|refine CallI.hp g3 [0,1,2,3,4,5] ?_|((refine CallI.wk (Wk.nlTs 11 0 1 37 243 (by with_unfolding_all exact rfl) (by with_unfolding_all exact rfl)) ⟨_,_,_,_,_,_,rfl,rfl,rfl,rfl⟩ ?_);refine CallI.h g2 [11,12] ?_)|refine QB ?_|intro x hx hu|intro h|refine Spp.mk ?_ ?_))
     all_goals first|(exfalso;omega)|skip
     all_goals exact QS)
 ·rw [if_pos c1,Q2 c1]
  refine QR i90 fun T=>?_
  (repeat' ((conv=>whnf);first|refine rFk hP ?_|refine QB ?_|intro x hx hu|intro h|refine Spp.mk ?_ ?_))
  all_goals first|(exfalso;omega)|skip
  all_goals exact QS
theorem QPS{f:Int→List UInt8}{j:Int}(h:j∈frA f):1≤j∧j≤24:=by
 unfold frA at h
 obtain⟨i,hi,rfl⟩:=yf.1 h
 have:=y4.1 (ub.1 hi).1
 omega
theorem QDN{f:Int→List UInt8}{n:Nat}{j:Int}(h:j∈frB f n):1≤j∧j≤24:=QPS (y9 h)
theorem QPT{fr:List Int}(h:∀j∈fr,1≤j∧j≤24)(i:Nat)(e:Int)(he:0≤e∧e≤24):0≤fr.getD i e∧fr.getD i e≤24:=by
 rw[zk]
 by_cases hi:i<fr.length
 ·rw [zi hi]
  have:=h _ (zo hi)
  exact⟨by show 0≤fr[i];omega,by show fr[i]≤24;omega⟩
 ·rw [wl (by omega)];exact he
theorem QDO{x:Ino}{had:Nat}{fr:List Int}(h:∀j∈fr,1≤j∧j≤24)(i:Nat)(he:0≤Q0 x i∧Q0 x i≤24):0≤QHQ x had fr i∧QHQ x had fr i≤24:=by
 unfold QHQ
 split
 ·exact QPT h _ _ he
 ·exact he
theorem QAN{x:Ino}(h:RI x)(i:Nat):0≤Q0 x i∧Q0 x i≤24:=by
 have:(0≤x.b0∧x.b0≤24)∧(0≤x.b1∧x.b1≤24)∧(0≤x.b2∧x.b2≤24)∧(0≤x.b3∧x.b3≤24):=by
  rcases h with h|h
  ·omega
  ·omega
 obtain⟨h0,h1,h2,h3⟩:=this
 match i with
 |0=>exact h0
 |1=>exact h1
 |2=>exact h2
 |i+3=>exact h3
theorem QGJ{x:Ino}(hx:RI x){had:Nat}{fr:List Int}(h:∀j∈fr,1≤j∧j≤24)(z:Int)(i:Nat):0≤Q0 (Xa x z had fr) i∧Q0 (Xa x z had fr) i≤24:=by
 match i with
 |0=>exact QDO h 0 (QAN hx 0)
 |1=>exact QDO h 1 (QAN hx 1)
 |2=>exact QDO h 2 (QAN hx 2)
 |i+3=>exact QDO h 3 (QAN hx 3)
theorem QLK(c:List UInt8)(i j:Nat):QD ((c.drop i).take j)=((QD c).take (i+j)).drop i:=by
 unfold QD
 rw[ug,u6,←List.take_drop]
theorem QSl{a:Int}{k:Nat}(h0:32*(k:Int)≤a)(h1:a<32*(k:Int)+32)(hk:k≤100):IntKind.i64.wrap (Int.tdiv a 32)=(k:Int):=by
 have e:Int.tdiv a 32=(k:Int):=by
  rw[jb (by omega)]
  omega
 rw[e,kq _ (by omega)]
theorem QSm{a:Int}{k:Nat}(h0:32*(k:Int)≤a)(h1:a<32*(k:Int)+32):Int.tmod a 32=(((a-32*(k:Int)).toNat:Nat):Int):=by
 rw[qj (by omega)]
 omega
theorem QGK{f:Int→List UInt8}{n:Int}{x y:Ino}{had:Nat}{off:Int}{b:List UInt8}{k:Nat}(hy:∀i,0≤Q0 y i∧Q0 y i≤24):∀s∈Z9 f n x y had off b k,QEh s:=by
 intro s hs
 unfold Z9 at hs
 obtain⟨i,_,rfl⟩:=yf.1 hs
 unfold QMT
 have:=hy i
 exact⟨J4 _ _ _ _,by show(0:Int)≤40+Q0 y i;omega,by show 40+Q0 y i<(65:Int);omega⟩
theorem QBg{f:Int→List UInt8}{n:Int}{x y:Ino}{had:Nat}{off:Int}{b:List UInt8}{k:Nat}:(Z9 f n x y had off b k).length≤k:=by
 unfold Z9
 rw[zb]
 exact x6 (jt _ _) (by rw[xl];exact zt _)
def QSn(b:Bool)(bad:List Int)(d:Dk)(T:Nat→Nat)(f:Int→List UInt8)(x:Ino)(n:Nat)(k:Nat):S:=⟨[(0,.ptr 5 0),(7,.ptr 10 0),(9,.ts 32 ((QEl f x k).map QJ) 12),(28,.ms 1 10 2 n 4),(29,.d (.it .i64 n)),(30,.d (.it .i64 k))],(10,.cells 6 ((Za x).map .d))::(12,.tail 37 true)::(Qm b bad d++Qs 6 [0,5] T),13⟩
theorem QNB{f:Int→List UInt8}(hl:∀n,(f n).length=32)(x:Ino)(k:Nat)(hz:0≤x.z∧x.z≤128)(hn:(x.z+31)/32=(k:Int)):(QEl f x k).flatten.take x.z.toNat=JQ f x:=by
 have e:[f (40+x.b0),f (40+x.b1),f (40+x.b2),f (40+x.b3)].flatten=f (40+x.b0)++f (40+x.b1)++f (40+x.b2)++f (40+x.b3):=by simp
 have h0:=hl (40+x.b0)
 have h1:=hl (40+x.b1)
 have h2:=hl (40+x.b2)
 have h3:=hl (40+x.b3)
 unfold JQ
 have hk':k=0∨k=1∨k=2∨k=3∨k=4:=by omega
 unfold QEl
 rcases hk' with rfl|rfl|rfl|rfl|rfl
 ·have:x.z.toNat=0:=by omega
  rw[this];rfl
 ·show ([f (40+x.b0)].flatten).take _=_
  rw[y5,y5,wm (by omega)]
  simp
 ·show ([f (40+x.b0),f (40+x.b1)].flatten).take _=_
  rw[y5,wm (by rw[zj];omega)]
  simp
 ·show ([f (40+x.b0),f (40+x.b1),f (40+x.b2)].flatten).take _=_
  rw[wm (by rw[zj,zj];omega)]
  simp
 ·show ([f (40+x.b0),f (40+x.b1),f (40+x.b2),f (40+x.b3)].flatten).take _=_
  rw[e]
theorem QLL{b:Bool}{bad:List Int}{d:Dk}{N:Nat}(h:Fd bad d N)(p:List UInt8)(hp:p.length≤100000)(he:(ZJ (rdS (some d)) p).2.2=0):
  FnH Tryz.prog 70 [.ptr 5 0,.d (.st p)] (Qm b bad d) 6 [0,5] (.tup [.d (.fs 1 (QD (JQ (rdS (some d)) (ZJ (rdS (some d)) p).2.1))),.d (.it .i64 0)]) (Qm b bad d) 6:=by
 have h1:=JR d h.ok p hp
 have hx:=XO (rdS (some d)) p
 have hl:=fun n=>Xh h.ok n
 have hs:=fun b hb=>QHU d h.ok b hb
 generalize ZJ (rdS (some d)) p=q at*
 generalize rdS (some d)=f at*
 obtain⟨m,x,e⟩:=q
 dsimp only at*
 subst he
 replace h1:FnC Tryz.prog 103 [.d (.fp 1 [Qd (some d)]),.d (.st p)] (.tup [.d (.it .i64 m),.dg 6 [.it .i64 x.k,.it .i64 x.z,.it .i64 x.b0,.it .i64 x.b1,.it .i64 x.b2,.it .i64 x.b3],.d (.it .i64 0)]):=h1
 have hz:=QEo hx
 have hnd:=Yb x.z (by omega)
 obtain⟨n,hn⟩:∃n:Nat,(x.z+31)/32=(n:Int):=⟨((x.z+31)/32).toNat,by omega⟩
 rw[hn]at hnd
 have hn4:n≤4:=by omega
 refine QR i70 fun T=>?_
 (repeat' ((conv=>whnf);first|refine cEk hnd ?_|refine CallE.inl ?_|refine rFk h1 ?_|refine QB ?_|intro x hx hu|intro h|refine Spp.mk ?_ ?_))
 all_goals first|(exfalso;omega)|skip
 conv=>whnf
 refine ZB QA (fun k:Nat=>k≤n) (QSn b bad d T f x n) (fun k=>n-k) 0 (z7 _) Wk.e ?_
 intro k hk
 have hb:(-1000≤x.b0∧x.b0≤1000)∧(-1000≤x.b1∧x.b1≤1000)∧(-1000≤x.b2∧x.b2≤1000)∧(-1000≤x.b3∧x.b3≤1000):=by
  rcases hx with h|h
  ·omega
  ·refine ⟨?_,?_,?_,?_⟩<;>omega
 have hlen:((QEl f x k).map QJ).length=k:=by unfold QEl;rw[zb,z1];simp only[yq,xo];omega
 have hseq:∀j,j<4→QEl f x (j+1)=QEl f x j++[f (40+Q0 x j)]:=fun j hj=>by
  have hj':j=0∨j=1∨j=2∨j=3:=by omega
  rcases hj' with rfl|rfl|rfl|rfl<;>rfl
 by_cases hkn:k<n
 ·have hst:=hseq k (by omega)
  have hk4:k=0∨k=1∨k=2∨k=3:=by omega
  rcases hk4 with rfl|rfl|rfl|rfl
  ·have h0:=hs x.b0 hb.1
   obtain⟨g0,hg0⟩:=Zg (hl (40+x.b0))
   rw[hg0]at h0
   (repeat' ((conv=>whnf);first|refine CallE.inl ?_|refine rFk h0 ?_|refine QB ?_|intro x hx hu|intro h|refine Spp.mk ?_ ?_))
   all_goals first|(exfalso;omega)|skip
   exact⟨1,by omega,by first|omega|(dsimp only;omega),Wk.en ⟨ai rfl (ai rfl (ai (QAr (by rw[hst,yc];exact congrArg _ (by show _=[QJ (f (40+x.b0))];rw[hg0];rfl))) (ai rfl (ai rfl (ai (QQ (by omega)) trivial))))),(ai rfl (ai rfl (ai rfl (ai rfl (ai rfl (ai rfl (ai rfl (ai rfl (ai rfl (ai rfl (ai rfl trivial))))))))))),rfl⟩⟩
  ·have h0:=hs x.b1 hb.2.1
   obtain⟨g0,hg0⟩:=Zg (hl (40+x.b1))
   rw[hg0]at h0
   (repeat' ((conv=>whnf);first|refine CallE.inl ?_|refine rFk h0 ?_|refine QB ?_|intro x hx hu|intro h|refine Spp.mk ?_ ?_))
   all_goals first|(exfalso;omega)|skip
   exact⟨2,by omega,by first|omega|(dsimp only;omega),Wk.en ⟨ai rfl (ai rfl (ai (QAr (by rw[hst,yc];exact congrArg _ (by show _=[QJ (f (40+x.b1))];rw[hg0];rfl))) (ai rfl (ai rfl (ai (QQ (by omega)) trivial))))),(ai rfl (ai rfl (ai rfl (ai rfl (ai rfl (ai rfl (ai rfl (ai rfl (ai rfl (ai rfl (ai rfl trivial))))))))))),rfl⟩⟩
  ·have h0:=hs x.b2 hb.2.2.1
   obtain⟨g0,hg0⟩:=Zg (hl (40+x.b2))
   rw[hg0]at h0
   (repeat' ((conv=>whnf);first|refine CallE.inl ?_|refine rFk h0 ?_|refine QB ?_|intro x hx hu|intro h|refine Spp.mk ?_ ?_))
   all_goals first|(exfalso;omega)|skip
   exact⟨3,by omega,by first|omega|(dsimp only;omega),Wk.en ⟨ai rfl (ai rfl (ai (QAr (by rw[hst,yc];exact congrArg _ (by show _=[QJ (f (40+x.b2))];rw[hg0];rfl))) (ai rfl (ai rfl (ai (QQ (by omega)) trivial))))),(ai rfl (ai rfl (ai rfl (ai rfl (ai rfl (ai rfl (ai rfl (ai rfl (ai rfl (ai rfl (ai rfl trivial))))))))))),rfl⟩⟩
  ·have h0:=hs x.b3 hb.2.2.2
   obtain⟨g0,hg0⟩:=Zg (hl (40+x.b3))
   rw[hg0]at h0
   (repeat' ((conv=>whnf);first|refine CallE.inl ?_|refine rFk h0 ?_|refine QB ?_|intro x hx hu|intro h|refine Spp.mk ?_ ?_))
   all_goals first|(exfalso;omega)|skip
   exact⟨4,by omega,by first|omega|(dsimp only;omega),Wk.en ⟨ai rfl (ai rfl (ai (QAr (by rw[hst,yc];exact congrArg _ (by show _=[QJ (f (40+x.b3))];rw[hg0];rfl))) (ai rfl (ai rfl (ai (QQ (by omega)) trivial))))),(ai rfl (ai rfl (ai rfl (ai rfl (ai rfl (ai rfl (ai rfl (ai rfl (ai rfl (ai rfl (ai rfl trivial))))))))))),rfl⟩⟩
 ·obtain rfl:k=n:=by omega
  have hsl:(QEl f x k).length=k:=by unfold QEl;rw[z1];simp only[yq,xo];omega
  have hg:=QK1 (QEl f x k) x.z (fun s hs'=>by
   have:=y9 hs'
   simp only[zm,xm,or_false]at this
   rcases this with rfl|rfl|rfl|rfl<;>exact hl _) (by omega) hz.1 (by omega)
  have hdat:=QNB hl x k hz (by omega)
  rw[hdat]at hg
  generalize JQ f x=L at*
  have hll:L.length≤128:=by
   rw[←hdat,z1];omega
  (repeat' ((conv=>whnf);first|refine cEk hg ?_|refine CallE.inl ?_|with_reducible refine CallI.inl QA QOQ rfl ?_|refine QB ?_|intro x hx hu|intro h|refine Spp.mk ?_ ?_))
  all_goals first|(exfalso;omega)|skip
  all_goals (
   conv=>whnf
   first
   |exact⟨⟨[(4,.d (.fs 1 (QD L))),(5,.d (.it .i64 0))],Qm b bad d++Qs 6 [0,5] T,40⟩,Wk.vwL (ai (Vw.ts' rfl) (ai (Vw.eq rfl) trivial)) (ai (VwO.same _) (ai (VwO.same _) (ai (VwO.same _) (ai (VwO.same _) (ai (VwO.same _) (ai (VwO.same _) (ai (VwO.same _) (ai (VwO.same _) (ai (VwO.same _) trivial))))))))) rfl,rfl,(ai rfl (ai rfl (ai rfl (ai rfl (ai rfl (ai rfl trivial)))))),(ai rfl (ai rfl (ai rfl trivial)))⟩
   |exact⟨⟨[(4,.d (.fs 1 (QD L))),(5,.d (.it .i64 0))],Qm b bad d++Qs 6 [0,5] T,40⟩,Wk.vwL (ai (Vw.eq rfl) (ai (Vw.eq rfl) trivial)) (ai (VwO.same _) (ai (VwO.same _) (ai (VwO.same _) (ai (VwO.same _) (ai (VwO.same _) (ai (VwO.same _) (ai (VwO.same _) (ai (VwO.same _) (ai (VwO.same _) trivial))))))))) rfl,rfl,(ai rfl (ai rfl (ai rfl (ai rfl (ai rfl (ai rfl trivial)))))),(ai rfl (ai rfl (ai rfl trivial)))⟩
   |(obtain rfl:L=[]:=(by cases L with|nil=>rfl|cons=>(rename_i h _;cases h));exact⟨⟨[(4,.d (.fs 1 (QD []))),(5,.d (.it .i64 0))],Qm b bad d++Qs 6 [0,5] T,40⟩,Wk.vwL (ai (Vw.ts' rfl) (ai (Vw.eq rfl) trivial)) (ai (VwO.same _) (ai (VwO.same _) (ai (VwO.same _) (ai (VwO.same _) (ai (VwO.same _) (ai (VwO.same _) (ai (VwO.same _) (ai (VwO.same _) (ai (VwO.same _) trivial))))))))) rfl,rfl,(ai rfl (ai rfl (ai rfl (ai rfl (ai rfl (ai rfl trivial)))))),(ai rfl (ai rfl (ai rfl trivial)))⟩))
theorem QD2(n:Int)(hn: -1000≤n∧n≤1000)(x:Ino)(k i:Int):FnC Tryz.prog 78 [.d (.it .i64 n),.dg 6 (Za x),.dg 2 [.it .i64 k,.it .i64 i]] (.dg 36 (Qn ⟨1+n,Zz x,k,i,0⟩)):=by
 have h1:=QE7 x
 rw[QMK]at h1
 obtain⟨g,hg⟩:=Zg (Xi x)
 rw[hg]at h1⊢
 refine QL i78 ?_
 (repeat' ((conv=>whnf);first|refine cEk h1 ?_|refine QB ?_|intro x hx hu|intro h|refine Spp.mk ?_ ?_))
 rfl
theorem Xj(n:Int)(hn: -1000≤n∧n≤1000)(x:Ent)(i:Int):FnC Tryz.prog 80 [.d (.it .i64 n),.dg 4 (Xe x),.d (.it .i64 i)] (.dg 36 (Qn ⟨17+n,Qa x,3,i,0⟩)):=by
 have h1:=QB7 x
 rw[QML]at h1
 obtain⟨g,hg⟩:=Zg (ZO x)
 rw[hg]at h1⊢
 refine QL i80 ?_
 (repeat' ((conv=>whnf);first|refine cEk h1 ?_|refine QB ?_|intro x hx hu|intro h|refine Spp.mk ?_ ?_))
 rfl
def QD3(a:Plc×Int):List D:=[.it .i64 a.1.fo,.st a.1.nm,.it .i64 (if a.1.k<0 then 0 else a.1.k),.bl (decide (a.2=0∧0≤a.1.k))]
def spV(a:Plc×Int):AV:= .tup [.dg 4 (QD3 a),.d (.it .i64 a.2)]
theorem QAO(m:List (List UInt8))(hm:Zx m)(p:List UInt8)(hp:p.length≤100000):FnC Tryz.prog 75 [.d (Q1 m),.d (.st p)] (spV (ZN (imS m) p)):=by
 have h1:=QB9 p hp
 rw[QF8]at h1
 have hul:=QJ2 p
 have h2:=Jg m hm (Zj p).1 (by omega)
 have h3:=Zh m hm (ZI (imS m) (Zj p).1).1
 have h4:=QDy m hm (ZI (imS m) (Zj p).1).1 (Zj p).2.1
 unfold ZN QK6
 generalize ZI (imS m) (Zj p).1=r at*
 generalize Zj p=q at*
 obtain⟨up,nm,e⟩:=q
 obtain⟨n,g⟩:=r
 dsimp only at*
 generalize imS m=f at*
 generalize Q1 m=E at*
 replace h2:FnC Tryz.prog 65 [.d E,.d (.st up)] (.tup [.d (.it .i64 n),.d (.it .i64 g)]):=h2
 replace h1:FnC Tryz.prog 84 [.d (.st p)] (.tup [.d (.st up),.d (.st nm),.d (.it .i64 e)]):=h1
 generalize Qw f n=x at*
 obtain⟨kk,z,b0,b1,b2,b3⟩:=x
 dsimp only
 by_cases c1:e=0
 ·subst c1
  rw[if_neg (by simp)]
  by_cases c2:g=0
  ·subst c2
   rw[if_neg (by simp)]
   by_cases c3:kk=2
   ·subst c3
    rw[if_neg (by simp)]
    cases hk:Yy f n nm with
    |none=>
     rw[hk]at h4
     replace h4:FnC Tryz.prog 121 [.d E,.d (.it .i64 n),.d (.st nm)] (.tup [.d (.it .i64 0),.d (.bl false)]):=h4
     refine QL i75 ?_
     (repeat' ((conv=>whnf);first|refine cEk h1 ?_|refine cEk h2 ?_|refine cEk h3 ?_|refine cEk h4 ?_|refine QB ?_|intro x hx hu|intro h|refine Spp.mk ?_ ?_))
     rfl
    |some k=>
     rw[hk]at h4
     replace h4:FnC Tryz.prog 121 [.d E,.d (.it .i64 n),.d (.st nm)] (.tup [.d (.it .i64 (k:Nat)),.d (.bl true)]):=h4
     have e4:spV (⟨n,nm,QMS (some k)⟩,0)= .tup [.dg 4 [.it .i64 n,.st nm,.it .i64 (k:Nat),.bl true],.d (.it .i64 0)]:=by
      unfold spV QD3 QMS
      dsimp only
      rw[if_neg (by omega),decide_eq_true ⟨rfl,by omega⟩]
     rw[e4]
     refine QL i75 ?_
     (repeat' ((conv=>whnf);first|refine cEk h1 ?_|refine cEk h2 ?_|refine cEk h3 ?_|refine cEk h4 ?_|refine QB ?_|intro x hx hu|intro h|refine Spp.mk ?_ ?_))
     rfl
   ·rw [if_pos c3]
    refine QL i75 ?_
    (repeat' ((conv=>whnf);first|refine cEk h1 ?_|refine cEk h2 ?_|refine cEk h3 ?_|refine QB ?_|intro x hx hu|intro h|refine Spp.mk ?_ ?_))
    rfl
  ·rw [if_pos c2]
   have e4:spV (⟨0,[],0⟩,g)= .tup [.dg 4 [.it .i64 0,.st [],.it .i64 0,.bl false],.d (.it .i64 g)]:=by
    unfold spV QD3
    dsimp only
    rw[decide_eq_false (fun h=>c2 h.1)];rfl
   rw[e4]
   refine QL i75 ?_
   (repeat' ((conv=>whnf);first|refine cEk h1 ?_|refine cEk h2 ?_|refine QB ?_|intro x hx hu|intro h|refine Spp.mk ?_ ?_))
   rfl
 ·rw [if_pos c1]
  have e4:spV (⟨0,[],0⟩,e)= .tup [.dg 4 [.it .i64 0,.st [],.it .i64 0,.bl false],.d (.it .i64 e)]:=by
   unfold spV QD3
   dsimp only
   rw[decide_eq_false (fun h=>c1 h.1)];rfl
  rw[e4]
  refine QL i75 ?_
  (repeat' ((conv=>whnf);first|refine cEk h1 ?_|refine QB ?_|intro x hx hu|intro h|refine Spp.mk ?_ ?_))
  rfl
theorem QBh(m:List (List UInt8))(hm:Zx m)(p:List UInt8)(hp:p.length≤100000):FnC Tryz.prog 81 [.d (Q1 m),.d (.st p)] (QST (ZJ (imS m) p)):=by
 have hl:=Jg m hm p hp
 have hi:=Zh m hm (ZI (imS m) p).1
 unfold ZJ
 generalize ZI (imS m) p=r at*
 obtain⟨n,g⟩:=r
 dsimp only at*
 generalize Q1 m=E at*
 replace hl:FnC Tryz.prog 65 [.d E,.d (.st p)] (.tup [.d (.it .i64 n),.d (.it .i64 g)]):=hl
 generalize Qw (imS m) n=x at*
 obtain⟨k,z,b0,b1,b2,b3⟩:=x
 by_cases c1:g=0
 ·subst c1
  rw[if_neg (by simp)]
  by_cases c2:k=1
  ·subst c2
   rw[if_neg (by simp)]
   refine QL i81 ?_
   (repeat' ((conv=>whnf);first|refine cEk hl ?_|refine cEk hi ?_|refine QB ?_|intro x hx hu|intro h|refine Spp.mk ?_ ?_))
   rfl
  ·rw [if_pos c2]
   refine QL i81 ?_
   (repeat' ((conv=>whnf);first|refine cEk hl ?_|refine cEk hi ?_|refine QB ?_|intro x hx hu|intro h|refine Spp.mk ?_ ?_))
   rfl
 ·rw [if_pos c1]
  refine QL i81 ?_
  (repeat' ((conv=>whnf);first|refine cEk hl ?_|refine QB ?_|intro x hx hu|intro h|refine Spp.mk ?_ ?_))
  rfl
theorem gB0{p q:Prop}(k:q)(h:q→p:=by intro k;with_reducible first|exact QOF k|exact QOG k|exact QRg k|exact QRh k|exact QRi k|exact QOH k|exact XE.mk k|exact QRj k|exact QRk k|exact QOI k):p:=h k
def y7(bad:List Int)(d:Dk)(w:Wr)(T0:Nat):S:=⟨[(0,.ptr 0 0),(10,.ptr 6 0)],[(0,.cells 6 [.d (.fs 32 (d.safe.map QJ)),.d (.fs 36 ((d.wait.map Qn)++[Qn w])),.d (.it .i64 d.ep),.d (.fs 38 d.log),.d (.fs 1 (vI bad)),.d (.it .i64 (d.nx+1))]),(6,.cells 36 ((Qn w).map AV.d)),(1,.frame 2 [(0,.ptr 0 0)]),(2,.tag 0 T0)],7⟩
def y8(bad:List Int)(d:Dk)(w:Wr)(T0:Nat):S:=⟨[(0,.ptr 0 0)],[(0,.cells 6 [.d (.fs 32 (d.safe.map QJ)),.d (.fs 36 ((d.wait.map Qn)++[Qn w])),.d (.it .i64 d.ep),.d (.fs 38 (d.log++[QMG w])),.d (.fs 1 (vI bad)),.d (.it .i64 (d.nx+1))]),(1,.frame 2 [(0,.ptr 0 0)]),(2,.tag 0 T0)],7⟩
theorem QQB{N:Nat}{σ τ:S}(h:Wk N σ τ):Wk N σ τ:=h
theorem QNC{P:Program}{ti:Nat→Option Ty}{N:Nat}{ops:List Oper}{σ:S}{K:S→Prop}(h:QX P ti N 7 ops σ K):QX P ti N 7 ops σ K:=h
theorem QND{P:Program}{ti:Nat→Option Ty}{N:Nat}{ops:List Oper}{σ:S}{K:S→Prop}(h:QX P ti N 8 ops σ K):QX P ti N 8 ops σ K:=h
theorem QI6(bad:List Int)(d:Dk)(a:Int)(s:List UInt8)(hs:s.length=32)(k i:Int)(hn:0≤d.nx∧d.nx≤1000000)(hb:bad.length≤1000000)(hw:d.wait.length≤1000000)(hlg:d.log.length≤1000000)(ha:0≤a∧a<d.safe.length)(h:d.nx∉bad):
  FnH Tryz.prog 134 [.ptr 0 0,.d (.it .i64 a),.dg 32 (QJ s),.dg 2 [.it .i64 k,.it .i64 i]] (Qp bad d) 1 [0] (.d (.it .i64 0)) (Qp bad (wrD d ⟨a,s,k,i,0⟩)) 1:=by
 have hin:FnC Tryz.prog 170 [.d (.fs 1 (vI bad)),.d (.it .i64 (d.nx+1-1))] (.d (.bl (decide (d.nx∈bad)))):=by
  have:=QDo bad (d.nx+1-1) hb
  rwa [show decide (d.nx+1-1∈bad)=decide (d.nx∈bad) by rw[qd]]at this
 have hl1:(d.safe.map QJ).length=d.safe.length:=zb ..
 have hl2:(d.wait.map Qn).length=d.wait.length:=zb ..
 rw[decide_eq_false h]at hin
 obtain⟨g,rfl⟩:=Zg hs
 refine QR QQN fun T=>?_
 (repeat' ((conv=>whnf);first|with_reducible refine gA ?_|refine cEk hin ?_|refine CallE.inl ?_|with_reducible refine CallI.inl QA QLh rfl ?_|((with_reducible refine QK ?_);((fail_if_success (with_reducible refine QNC ?_));(fail_if_success (with_reducible refine QND ?_));first|refine QH QA mixed (by decide+kernel) ?_|refine QF QA mixed 0 (by decide+kernel) ?_))|(with_reducible first|refine gB0 ?_|refine gZ (fun x hx hu=>?_)|refine gY (fun x hx=>?_)|refine gE ?_|refine QJN.mk ?_ ?_|refine gS (fun h=>?_) (fun h=>?_)|refine Spl.nt ?_|refine Spl.mk (fun h=>?_) (fun h=>?_))))
 all_goals first|(exfalso;omega)|skip
 refine QX.mid (y7 bad d ⟨a,Qx g,k,i,d.ep⟩ (T 0)) (YL QA mixed [0,1,1,1] (by decide+kernel) ?_) ?_
 ·(repeat' ((conv=>whnf);first|with_reducible refine gA ?_|with_reducible exact trivial|with_reducible refine Br.mk ?_ ?_|with_reducible refine AtA.mk' ?_|with_reducible refine QRR.mk (fun ext hext=>?_)|((with_reducible refine QQB ?_);exact Wk.vwL (ai (Vw.eq rfl) (ai (Vw.eq rfl) trivial)) (ai (VwO.cells _ _ _ (.cons (Vw.eq rfl) rfl (.cons (Vw.ts' rfl) rfl (.cons (Vw.eq rfl) rfl (.cons (Vw.eq rfl) rfl (.cons (Vw.eq rfl) rfl (.cons (Vw.eq rfl) rfl .nil))))))) (ai (VwO.same _) (ai (VwO.same _) (ai (VwO.same _) trivial)))) rfl)|(with_reducible first|refine gB0 ?_|refine gZ (fun x hx hu=>?_)|refine gY (fun x hx=>?_)|refine gE ?_|refine QJN.mk ?_ ?_|refine gS (fun h=>?_) (fun h=>?_)|refine Spl.nt ?_|refine Spl.mk (fun h=>?_) (fun h=>?_))))
 refine QX.mid (y8 bad d ⟨a,Qx g,k,i,d.ep⟩ (T 0)) (YL QA mixed [0,1,1,1] (by decide+kernel) ?_) ?_
 ·(repeat' ((conv=>whnf);first|with_reducible refine gA ?_|with_reducible exact trivial|with_reducible refine Br.mk ?_ ?_|with_reducible refine AtA.mk' ?_|with_reducible refine QRR.mk (fun ext hext=>?_)|((with_reducible refine QQB ?_);exact Wk.vwL (ai (Vw.eq rfl) trivial) (ai (VwO.cells _ _ _ (.cons (Vw.eq rfl) rfl (.cons (Vw.eq rfl) rfl (.cons (Vw.eq rfl) rfl (.cons (Vw.ts' rfl) rfl (.cons (Vw.eq rfl) rfl (.cons (Vw.eq rfl) rfl .nil))))))) (ai (VwO.same _) (ai (VwO.same _) trivial))) rfl)|(with_reducible first|refine gB0 ?_|refine gZ (fun x hx hu=>?_)|refine gY (fun x hx=>?_)|refine gE ?_|refine QJN.mk ?_ ?_|refine gS (fun h=>?_) (fun h=>?_)|refine Spl.nt ?_|refine Spl.mk (fun h=>?_) (fun h=>?_))))
 (repeat' ((conv=>whnf);first|refine QB ?_|intro x hx hu|intro h|refine Spp.mk ?_ ?_))
 refine QY rfl (ai (QMM rfl ?_ rfl) trivial) (ai rfl (ai rfl trivial))
 show _=(d.wait++[_]).map Qn
 rw[yc];rfl
def QUV(bad:List Int)(T:Nat→Nat)(ws:List Wr):Nat×Dk→S|(k,D)=>⟨[(0,.ptr 0 0),(1,.d (.fs 36 (ws.map Qn))),(5,.d (.it .i64 (k:Nat)))],Qp bad D++Qs 1 [0] T,3⟩
theorem YP{bad:List Int}{d:Dk}{N:Nat}(h:Fd bad d N)(ws:List Wr)(hw:∀w∈ws,QEh (.wr w))(hl:ws.length≤100):
  FnH Tryz.prog 79 [.ptr 0 0,.d (.fs 36 (ws.map Qn))] (Qp bad d) 1 [0] (.d (.it .i64 (Qt bad d (ws.map .wr)).2)) (Qp bad (Qt bad d (ws.map .wr)).1) 1:=by
 have hwl:(ws.map Qn).length=ws.length:=zb ..
 have hN:=h.hN
 obtain⟨R,hR⟩:∃R,Qt bad d (ws.map .wr)=R:=⟨_,rfl⟩
 rw[hR]
 refine QR i79 fun T=>?_
 (repeat' ((conv=>whnf);first|refine QB ?_|intro x hx hu|intro h|refine Spp.mk ?_ ?_))
 conv=>whnf
 refine ZB QA (fun x:Nat×Dk=>x.1≤ws.length∧Qt bad x.2 ((ws.drop x.1).map .wr)=R∧DB x.2 (N+x.1)∧x.2.safe.length=65) (QUV bad T ws) (fun x=>ws.length-x.1) (0,d) ⟨z7 _,hR,h.b,h.n⟩ Wk.e ?_
 intro⟨k,D⟩ hk0
 have hk:=hk0.1
 have hr:=hk0.2.1
 have hb:=hk0.2.2.1
 have hn:=hk0.2.2.2
 dsimp only at hk hr hb hn
 by_cases hkl:k<ws.length
 ·obtain ⟨w,hx⟩:=Qy hkl
  have hws:=hw w (yj hx)
  have hdr:ws.drop k=w::ws.drop (k+1):=by
   obtain⟨hk',e⟩:=z6.1 hx
   rw[wn hk',e]
  rw[hdr]at hr
  have hq:Qt bad D (.wr w::(ws.drop (k+1)).map .wr)=R:=hr
  unfold Qt at hq
  have hin:0≤w.a∧w.a<D.safe.length:=⟨hws.2.1,by rw[hn];exact hws.2.2⟩
  have hb1:DB (wrD D w) (N+(k+1)):=⟨⟨by have:=hb.nx;show 0≤D.nx+1;omega,by have:=hb.nx;show D.nx+1≤_;omega⟩,by have:=hb.w;show(D.wait++[_]).length≤_;rw[zj,xd];omega,by have:=hb.l;show(D.log++[_]).length≤_;rw[zj,xd];omega,hb.s,hb.s0⟩
  obtain⟨wa,wS,wk,wi,we⟩:=w
  by_cases hbad:D.nx∈bad
  ·rw [if_pos hbad]at hq
   have hW:=QK3 bad D wa wS hws.1 wk wi (by have:=hb.nx;omega) h.bl (.inr hbad)
   rw[if_neg (by simpa using hin)]at hW
   obtain⟨g,rfl⟩:=Zg hws.1
   (repeat' ((conv=>whnf);first|with_reducible refine Zu hx ?_|with_reducible refine AtA.mk' ?_|refine CallE.inl ?_|refine CallI.h hW [0] ?_|refine QB ?_|intro x hx hu|intro h|refine Spp.mk ?_ ?_))
   all_goals first|(exfalso;omega)|skip
   rw[←hq]
   exact QS
  ·rw [if_neg hbad]at hq
   have hW:=QI6 bad D wa wS hws.1 wk wi (by have:=hb.nx;omega) h.bl (by have:=hb.w;omega) (by have:=hb.l;omega) hin hbad
   obtain⟨g,rfl⟩:=Zg hws.1
   (repeat' ((conv=>whnf);first|with_reducible refine Zu hx ?_|with_reducible refine AtA.mk' ?_|refine CallE.inl ?_|refine CallI.h hW [0] ?_|refine QB ?_|intro x hx hu|intro h|refine Spp.mk ?_ ?_))
   all_goals first|(exfalso;omega)|skip
   exact⟨(k+1,wrD D ⟨wa,Qx g,wk,wi,we⟩),⟨hkl,hq,hb1,hn⟩,by first|omega|(dsimp only;omega),Wk.en ⟨ai rfl (ai rfl (ai (QQ (by omega)) trivial)),(ai rfl (ai rfl (ai rfl trivial))),rfl⟩⟩
 ·have hnil:ws.drop k=[]:=vf (by omega)
  rw[hnil]at hr
  replace hr:(D,(0:Int))=R:=hr
  (repeat' ((conv=>whnf);first|refine QB ?_|intro x hx hu|intro h|refine Spp.mk ?_ ?_))
  subst hr
  exact QS
theorem QD4(fo k:Int)(nm:List UInt8)(h:0≤k):spV (⟨fo,nm,k⟩,0)= .tup [.dg 4 [.it .i64 fo,.st nm,.it .i64 k,.bl true],.d (.it .i64 0)]:=by
 unfold spV QD3
 dsimp only
 rw[if_neg (by omega),decide_eq_true ⟨rfl,h⟩]
theorem QFN(fo k:Int)(nm:List UInt8)(h:k<0):spV (⟨fo,nm,k⟩,0)= .tup [.dg 4 [.it .i64 fo,.st nm,.it .i64 0,.bl false],.d (.it .i64 0)]:=by
 unfold spV QD3
 dsimp only
 rw[if_pos h,decide_eq_false (fun x=>by have:=x.2;omega)]
theorem QKG(a:Plc)(e:Int)(h:e≠0):spV (a,e)= .tup [.dg 4 [.it .i64 a.fo,.st a.nm,.it .i64 (if a.k<0 then 0 else a.k),.bl false],.d (.it .i64 e)]:=by
 unfold spV QD3
 dsimp only
 rw[decide_eq_false (fun x=>h x.1)]
abbrev QT(d:Dk):List (List UInt8):=Zy d.safe d.wait
theorem Jh{bad:List Int}{d:Dk}{N:Nat}(h:Fd bad d N):Zx (QT d):=QHL h.s h.w
theorem QHk{bad:List Int}{d:Dk}{N:Nat}(h:Fd bad d N)(p:List UInt8)(hp:p.length≤100000)(kind:Int):
  FnH Tryz.prog 33 [.ptr 0 0,.d (.st p),.d (.it .i64 kind)] (Qp bad d) 1 [0] (.d (.it .i64 (runP bad d (mkP (imS (QT d)) p kind)).2)) (Qp bad (runP bad d (mkP (imS (QT d)) p kind)).1) 1:=by
 have hNw:=X8 bad d h.ok h.r
 have hm:=Jh h
 have hP:=QAO (QT d) hm p hp
 have hI:=QPP (QT d) hm
 have hK:=QHd (QT d) hm
 have hfi:=fun n=>QI4 (f:=imS (QT d)) (n:=n)
 have hfe:=fun n=>QCI (f:=imS (QT d)) (n:=n)
 unfold mkP mkQ
 replace hNw:FnH Tryz.prog 42 [.ptr 0 0] (Qp bad d) 1 [0] (.d (Q1 (QT d))) (Qp bad d) 1:=hNw
 generalize ZN (imS (QT d)) p=a at*
 generalize frI (imS (QT d))=oi at*
 generalize frE (imS (QT d))=oe at*
 generalize Q1 (QT d)=E at*
 obtain⟨⟨fo,nm,k⟩,e⟩:=a
 dsimp only
 by_cases c1:e=0
 ·subst c1
  rw[if_neg (by simp)]
  by_cases c2:0≤k
  ·rw [if_pos c2,Q2 (by decide)]
   rw[QD4 _ _ _ c2]at hP
   refine QR i33 fun T=>?_
   (repeat' ((conv=>whnf);first|refine cEk hP ?_|refine CallE.inl ?_|refine CallI.h hNw [0] ?_|refine QB ?_|intro x hx hu|intro h|refine Spp.mk ?_ ?_))
   exact QS
  ·rw [if_neg c2]
   rw[QFN _ _ _ (by omega)]at hP
   cases oi with
   |none=>
    show FnH _ _ _ _ _ _ (.d (.it .i64 (runP bad d (2,[])).2)) (Qp bad (runP bad d (2,[])).1) _
    rw[Q2 (by decide)]
    replace hI:FnC Tryz.prog 76 [.d E] (.tup [.d (.it .i64 0),.d (.bl false)]):=hI
    cases oe with
    |none=>
     replace hK:FnC Tryz.prog 77 [.d E] (.tup [.d (.it .i64 0),.d (.bl false)]):=hK
     refine QR i33 fun T=>?_
     (repeat' ((conv=>whnf);first|refine cEk hP ?_|refine cEk hI ?_|refine cEk hK ?_|refine CallE.inl ?_|refine CallI.h hNw [0] ?_|refine QB ?_|intro x hx hu|intro h|refine Spp.mk ?_ ?_))
     exact QS
    |some k=>
     replace hK:FnC Tryz.prog 77 [.d E] (.tup [.d (.it .i64 (k:Nat)),.d (.bl true)]):=hK
     refine QR i33 fun T=>?_
     (repeat' ((conv=>whnf);first|refine cEk hP ?_|refine cEk hI ?_|refine cEk hK ?_|refine CallE.inl ?_|refine CallI.h hNw [0] ?_|refine QB ?_|intro x hx hu|intro h|refine Spp.mk ?_ ?_))
     exact QS
   |some n=>
    replace hI:FnC Tryz.prog 76 [.d E] (.tup [.d (.it .i64 (n:Nat)),.d (.bl true)]):=hI
    cases oe with
    |none=>
     replace hK:FnC Tryz.prog 77 [.d E] (.tup [.d (.it .i64 0),.d (.bl false)]):=hK
     show FnH _ _ _ _ _ _ (.d (.it .i64 (runP bad d (2,[])).2)) (Qp bad (runP bad d (2,[])).1) _
     rw[Q2 (by decide)]
     refine QR i33 fun T=>?_
     (repeat' ((conv=>whnf);first|refine cEk hP ?_|refine cEk hI ?_|refine cEk hK ?_|refine CallE.inl ?_|refine CallI.h hNw [0] ?_|refine QB ?_|intro x hx hu|intro h|refine Spp.mk ?_ ?_))
     exact QS
    |some q=>
     replace hK:FnC Tryz.prog 77 [.d E] (.tup [.d (.it .i64 (q:Nat)),.d (.bl true)]):=hK
     have hn:=hfi n rfl
     have hq:=hfe q rfl
     dsimp only
     rw[Z0]
     have g1:=QD2 (n:Nat) (by omega) ⟨kind,0,0,0,0,0⟩ 2 (n:Nat)
     have g2:=Xj (q:Nat) (by omega) ⟨true,fo,nm,(n:Nat)⟩ fo
     have g3:=YP h [⟨1+(n:Nat),Zz ⟨kind,0,0,0,0,0⟩,2,(n:Nat),0⟩,⟨17+(q:Nat),Qa ⟨true,fo,nm,(n:Nat)⟩,3,fo,0⟩] (fun s hs=>by
      simp only[zm,xm,or_false]at hs
      rcases hs with rfl|rfl
      ·exact ⟨Xi _,by show(0:Int)≤1+_;omega,by show(1:Int)+_<_;omega⟩
      ·exact ⟨ZO _,by show(0:Int)≤17+_;omega,by show(17:Int)+_<_;omega⟩) (by simp)
     obtain⟨s1,e1⟩:=Zg (Xi ⟨kind,0,0,0,0,0⟩)
     obtain⟨s2,e2⟩:=Zg (ZO ⟨true,fo,nm,(n:Nat)⟩)
     replace g3:FnH Tryz.prog 79 [.ptr 0 0,.d (.fs 36 [Qn ⟨1+(n:Nat),Zz ⟨kind,0,0,0,0,0⟩,2,(n:Nat),0⟩,Qn ⟨17+(q:Nat),Qa ⟨true,fo,nm,(n:Nat)⟩,3,fo,0⟩])] (Qp bad d) 1 [0] (.d (.it .i64 (Qt bad d [.wr ⟨1+(n:Nat),Zz ⟨kind,0,0,0,0,0⟩,2,(n:Nat),0⟩,.wr ⟨17+(q:Nat),Qa ⟨true,fo,nm,(n:Nat)⟩,3,fo,0⟩]).2)) (Qp bad (Qt bad d [.wr ⟨1+(n:Nat),Zz ⟨kind,0,0,0,0,0⟩,2,(n:Nat),0⟩,.wr ⟨17+(q:Nat),Qa ⟨true,fo,nm,(n:Nat)⟩,3,fo,0⟩]).1) 1:=g3
     generalize Qt bad d [.wr ⟨1+(n:Nat),Zz ⟨kind,0,0,0,0,0⟩,2,(n:Nat),0⟩,.wr ⟨17+(q:Nat),Qa ⟨true,fo,nm,(n:Nat)⟩,3,fo,0⟩]=R at*
     rw[e1]at g1 g3
     rw[e2]at g2 g3
     refine QR i33 fun T=>?_
     (repeat' ((conv=>whnf);first|refine cEk hP ?_|refine cEk hI ?_|refine cEk hK ?_|refine cEk g1 ?_|refine cEk g2 ?_|refine CallE.inl ?_|refine cPk g1 ?_|refine cPk g2 ?_|refine CallI.h hNw [0] ?_|refine CallI.hp g3 [0] ?_|((with_reducible refine QK ?_);first|refine QH QA mixed (by decide+kernel) ?_|refine QF QA mixed 0 (by decide+kernel) ?_)|refine QB ?_|intro x hx hu|intro h|refine Spp.mk ?_ ?_))
     exact QS
 ·rw [if_pos c1,Q2 c1]
  rw[QKG _ _ c1]at hP
  refine QR i33 fun T=>?_
  (repeat' ((conv=>whnf);first|refine cEk hP ?_|refine CallE.inl ?_|refine CallI.h hNw [0] ?_|refine QB ?_|intro x hx hu|intro h|refine Spp.mk ?_ ?_))
  exact QS
theorem QNE{x:Ino}(hx:RI x){i q:Nat}(hq:i/32=q)(hz:(i:Int)<x.z):1≤Q0 x q∧Q0 x q≤24∧q<4:=by
 rcases hx with h|h
 ·omega
 ·have h4:q=0∨q=1∨q=2∨q=3:=by omega
  rcases h4 with rfl|rfl|rfl|rfl
  ·have:=h.2.2.2.1 (by omega);simp only[Q0];omega
  ·have:=h.2.2.2.2.2.1 (by omega);simp only[Q0];omega
  ·have:=h.2.2.2.2.2.2.2.1 (by omega);simp only[Q0];omega
  ·have:=h.2.2.2.2.2.2.2.2.2.1 (by omega);simp only[Q0];omega
theorem QQ7{a b:List (List D)}{n:Nat}(h:a=b):AV.ts 1 a n=AV.ts 1 b n:=by rw[h]
def QUW(m:List (List UInt8))(x:Ino)(L:List UInt8)(i:Nat):S:=⟨[(0,.d (Q1 m)),(7,.ptr 1 0),(9,.ts 1 (QD (L.take i)) 3),(10,.d (.it .i64 (i:Nat)))],[(1,.cells 6 [.d (.it .i64 x.k),.d (.it .i64 x.z),.d (.it .i64 x.b0),.d (.it .i64 x.b1),.d (.it .i64 x.b2),.d (.it .i64 x.b3)]),(3,.tail 5 true)],4⟩
theorem QNF(m:List (List UInt8))(hm:Zx m)(hmn:m.length=65)(p:List UInt8)(hp:p.length≤100000):FnC Tryz.prog 93 [.d (Q1 m),.d (.st p)] (.tup [.d (.fs 1 (QD (QA0 (imS m) p).1)),.d (.it .i64 (QA0 (imS m) p).2)]):=by
 have hP:=QBh m hm p hp
 have hRI:=XO (imS m) p
 have hl:=fun n=>QBX hm n
 unfold QA0
 generalize ZJ (imS m) p=q at*
 obtain⟨n,x,e⟩:=q
 dsimp only at*
 replace hP:FnC Tryz.prog 81 [.d (Q1 m),.d (.st p)] (.tup [.d (.it .i64 n),.dg 6 [.it .i64 x.k,.it .i64 x.z,.it .i64 x.b0,.it .i64 x.b1,.it .i64 x.b2,.it .i64 x.b3],.d (.it .i64 e)]):=hP
 by_cases c1:e=0
 ·subst c1
  rw[if_neg (by simp)]
  have hz:=QEo hRI
  have hdl:(JQ (imS m) x).length=x.z.toNat:=by
   unfold JQ
   rw[z1,zj,zj,zj,hl,hl,hl,hl];omega
  have hcat:=fun{i q:Nat} h1 h2 h3=>QQn (f:=imS m) hl x (i:=i) (q:=q) h1 h2 h3
  dsimp only
  generalize JQ (imS m) x=L at*
  refine QL i93 ?_
  (repeat' ((conv=>whnf);first|refine cEk hP ?_|refine CallE.inl ?_|refine QB ?_|intro x hx hu|intro h|refine Spp.mk ?_ ?_))
  conv=>whnf
  refine QU QA (fun i:Nat=>(i:Int)≤x.z) (QUW m x L) (fun i=>x.z.toNat-i) 0 (by omega) ⟨(ai rfl (ai rfl (ai rfl (ai rfl trivial)))),(ai rfl (ai rfl trivial)),rfl⟩ ?_
  intro i hi
  have htl:(L.take i).length≤128:=by rw[z1];omega
  have htl2:(QD (L.take i)).length≤128:=by unfold QD;rw[zb];exact htl
  by_cases hiz:(i:Int)<x.z
  ·obtain ⟨q,hq⟩:∃q,i/32=q:=⟨_,rfl⟩
   have hbq:=QNE hRI hq hiz
   obtain⟨b,hb⟩:=Qy (l:=L) (k:=i) (by omega)
   have hv1:QD (L.take i)++[[D.it .u8 b.toNat]]=QD (L.take (i+1)):=by rw[Qo hb,QIl];rfl
   have hc:=hcat hq hbq.2.2 hiz
   rw[hb]at hc
   replace hc:(imS m (40+Q0 x q))[i % 32]? =some b:=hc.symm
   obtain⟨s,hs⟩:=Qy (l:=m) (k:=(41+Q0 x q-1).toNat) (by omega)
   have hms:imS m (40+Q0 x q)=s:=by unfold imS;rw[zk,show(40+Q0 x q).toNat=(41+Q0 x q-1).toNat by omega,hs];rfl
   rw[hms]at hc
   have hbe:=QK5 hc
   have hQ:=QQl (i:=i) (q:=q) (by omega) hq
   have hq4:q=0∨q=1∨q=2∨q=3:=by omega
   rcases hq4 with rfl|rfl|rfl|rfl
   all_goals (
    simp only[Q0]at hbq hs
    (repeat' ((conv=>whnf);first|with_reducible refine Qj.eq _ hQ ?_|with_reducible refine Qj.eq ((i % 32:Nat):Int) (by with_unfolding_all exact QQm i) ?_|with_reducible refine QF7 hs ?_|((with_reducible refine QRf ?_);refine AtD.eq hbe ?_)|refine QB ?_|intro x hx hu|intro h|refine Spp.mk ?_ ?_))
    all_goals first|(exfalso;omega)|skip
    refine again (i+1) (by omega) (by dsimp only;omega) (ai rfl (ai rfl (ai (QQ7 hv1) (ai (QQ (by omega)) trivial)))) (ai rfl (ai rfl trivial)) rfl)
  ·have he:L.take i=L:=yb (by omega)
   (repeat' ((conv=>whnf);first|refine QB ?_|intro x hx hu|intro h|refine Spp.mk ?_ ?_))
   show AV.tup [.d (.fs 1 (QD (L.take i))),_]=_
   rw[he]
 ·rw [if_pos c1]
  refine QL i93 ?_
  (repeat' ((conv=>whnf);first|refine cEk hP ?_|refine CallE.inl ?_|refine QB ?_|intro x hx hu|intro h|refine Spp.mk ?_ ?_))
  rfl
theorem QPU{f g:Int→List UInt8}(h:∀n:Int,0≤n→f n=g n)(p:List UInt8):QA0 f p=QA0 g p:=by
 unfold QA0
 rw[QDL h]
 split
 ·rfl
 ·have hx:=XO g p
  generalize (ZJ g p).2.1=x at*
  unfold JQ
  have hb:=fun i=>QAN hx i
  rw[h _ (by have:=hb 0;simp only[Q0]at this;omega),h _ (by have:=hb 1;simp only[Q0]at this;omega),h _ (by have:=hb 2;simp only[Q0]at this;omega),h _ (by have:=hb 3;simp only[Q0]at this;omega)]
theorem XI(e:Int):FnC Tryz.prog 31 [.d (.it .i64 e)] (.d (.it .i64 e)):=by
 refine QL i31 ?_
 (repeat' ((conv=>whnf);first|refine QB ?_|intro x hx hu|intro h|refine Spp.mk ?_ ?_))
 rfl
theorem QHl{b:Bool}{bad:List Int}{d:Dk}{N:Nat}(h:Fd bad d N)(p:List UInt8)(hp:p.length≤100000):
  FnH Tryz.prog 70 [.ptr 5 0,.d (.st p)] (Qm b bad d) 6 [0,5] (.tup [.d (.fs 1 (QD (QA0 (rdS (some d)) p).1)),.d (.it .i64 (QA0 (rdS (some d)) p).2)]) (Qm b bad d) 6:=by
 unfold QA0
 by_cases he:(ZJ (rdS (some d)) p).2.2=0
 ·rw [if_neg (by simp[he])]
  exact QLL h p hp he
 ·rw [if_pos he]
  exact QMd h p hp he
theorem QNG{f:Int→List UInt8}(hf:∀n,(f n).length=32)(p:List UInt8):((QA0 f p).1.length:Int)=(ZJ f p).2.1.z∧(QA0 f p).1.length≤128∧(QA0 f p).2=(ZJ f p).2.2:=by
 have hx:=QEo (XO f p)
 unfold QA0
 by_cases he:(ZJ f p).2.2=0
 ·rw [if_neg (by simp[he])]
  have hl:(JQ f (ZJ f p).2.1).length=(ZJ f p).2.1.z.toNat:=by
   unfold JQ
   rw[z1,zj,zj,zj,hf,hf,hf,hf];omega
  exact⟨by dsimp only;omega,by dsimp only;omega,he.symm⟩
 ·rw [if_pos he]
  refine⟨?_,z7 _,rfl⟩
  unfold ZJ at he⊢
  split
  ·rfl
  ·rename_i h1
   rw[if_neg h1]at he
   split
   ·rfl
   ·rename_i h2
    rw[if_neg h2]at he
    exact absurd rfl he
theorem lkE(u:Int):(decide (u=0)==(u==0))=true:=by by_cases h:u=0<;>simp[h]
theorem QNH{P:List UInt8→Prop}(h:∃l,P l):∃l,P l:=h
theorem QHm{b:Bool}{bad:List Int}{d:Dk}{N:Nat}(h:Fd bad d N)(m:List (List UInt8))(hm:Zx m)(hmn:m.length=65)(hfe:∀n:Int,0≤n→imS m n=rdS (some d) n)(p:List UInt8)(hp:p.length≤100000):
  FnH Tryz.prog 41 [.ptr 5 0,.d (Q1 m),.d (.st p)] (Qm b bad d) 6 [0,5] (.d (.bl true)) (Qm b bad d) 6:=by
 have h1:=QHl (b:=b) h p hp
 have h2:=QNF m hm hmn p hp
 have h3:=QJ4 d h.ok p hp
 have h4:=Jg m hm p hp
 have h5:=QCF d h.ok p hp
 rw[QPU hfe]at h2
 rw[QDt hfe]at h4
 have hl:=QNG (fun n=>Xh h.ok n) p
 generalize QA0 (rdS (some d)) p=q at*
 generalize ZJ (rdS (some d)) p=r at*
 generalize ZI (rdS (some d)) p=u at*
 generalize Q1 m=E at*
 obtain⟨A,e⟩:=q
 obtain⟨n,⟨k,z,b0,b1,b2,b3⟩,e'⟩:=r
 obtain⟨un,ue⟩:=u
 dsimp only at*
 obtain⟨hz,hA,rfl⟩:=hl
 subst hz
 replace h4:FnC Tryz.prog 65 [.d E,.d (.st p)] (.tup [.d (.it .i64 un),.d (.it .i64 ue)]):=h4
 have hbl:(QD A).length=A.length:=zb ..
 have n1:=XI e
 have n2:=XI ue
 refine QR i41 fun T=>?_
 (repeat' ((conv=>whnf);first|refine cEk h2 ?_|refine cEk h4 ?_|refine cEk n1 ?_|refine cEk n2 ?_|refine CallE.inl ?_|refine cPk h2 ?_|refine cPk h4 ?_|refine cPk n1 ?_|refine cPk n2 ?_|refine CallI.h h1 [0,1,2,3,4,5] ?_|refine rFk h3 ?_|refine rFk h5 ?_|((with_reducible refine QNH ?_);refine⟨A,rfl,?_⟩)|refine QB ?_|intro x hx hu|intro h|refine Spp.mk ?_ ?_))
 all_goals first|(exfalso;omega)|skip
 all_goals first|exact QY (ZL (lkE ue)) (ai rfl (ai rfl (ai rfl (ai rfl (ai rfl (ai rfl trivial)))))) (ai rfl (ai rfl (ai rfl trivial)))|(exfalso;simp_all;done)
theorem QPV{b:Bool}{bad:List Int}{d:Dk}{N:Nat}(h:Fd bad d N)(a c:Plc)(x:Ent)(ha:0≤a.k∧a.k<24)(hc: -1≤c.k∧c.k<24):
  FnH Tryz.prog 147 [.ptr 5 0,.dg 3 (QJ3 a),.dg 3 (QJ3 c),.dg 4 (Xe x)] (Qm b bad d) 6 [0,5] (.d (.it .i64 (runP bad d (QHR (rdS (some d)) a c x)).2)) (Qm b bad (runP bad d (QHR (rdS (some d)) a c x)).1) 6:=by
 have hK:=QHf d h.ok
 have hfe:=fun n=>QCI (f:=rdS (some d)) (n:=n)
 unfold QHR
 generalize frE (rdS (some d))=oe at*
 have hS:=Y7 c
 have g1:=QAL [] (by simp) a.k (by omega) x c.fo
 have g2:=fun(k:Int) (hk:0≤k∧k<24)=>QAL [] (by simp) k (by omega) x c.fo
 obtain⟨af,an,ak⟩:=a
 obtain⟨cf,cn,ck⟩:=c
 obtain⟨xu,xp,xn,xt⟩:=x
 dsimp only at*
 replace hS:FnC Tryz.prog 146 [.dg 3 [.it .i64 cf,.st cn,.it .i64 ck]] (.d (.bl (decide (0≤ck)))):=hS
 show FnH _ _ [.ptr 5 0,.dg 3 [.it .i64 af,.st an,.it .i64 ak],.dg 3 [.it .i64 cf,.st cn,.it .i64 ck],.dg 4 [.bl xu,.it .i64 xp,.st xn,.it .i64 xt]] _ _ _ _ _ _
 have go3:∀k:Int,0≤k∧k<24→FnH Tryz.prog 130 [.ptr 5 0,.d (.fs 37 [Y5 (.wr ⟨17+k,Qa ⟨xu,xp,xn,xt⟩,3,cf,0⟩),Y5 .bar,Y5 (.wr ⟨17+ak,Qa Q6,3,af,0⟩)])] (Qm b bad d) 6 [0,5] (.d (.it .i64 (Qt bad d [.wr ⟨17+k,Qa ⟨xu,xp,xn,xt⟩,3,cf,0⟩,.bar,.wr ⟨17+ak,Qa Q6,3,af,0⟩]).2)) (Qm b bad (Qt bad d [.wr ⟨17+k,Qa ⟨xu,xp,xn,xt⟩,3,cf,0⟩,.bar,.wr ⟨17+ak,Qa Q6,3,af,0⟩]).1) 6:=fun k hk=>
  QDp (b:=b) h [.wr ⟨17+k,Qa ⟨xu,xp,xn,xt⟩,3,cf,0⟩,.bar,.wr ⟨17+ak,Qa Q6,3,af,0⟩] (fun s hs=>by
   simp only[zm,xm,or_false]at hs
   rcases hs with rfl|rfl|rfl
   ·exact XU k hk _ _
   ·trivial
   ·exact XU ak ha _ _) (by simp)
 by_cases c1:ck<0
 ·rw [decide_eq_false (by omega)]at hS
  by_cases c2:af=cf
  ·subst c2
   rw[if_pos ⟨c1,rfl⟩,Z0]
   have g3:=QDp (b:=b) h [.wr ⟨17+ak,Qa ⟨xu,xp,xn,xt⟩,3,af,0⟩] (fun s hs=>by
    simp only[zm,xm,or_false]at hs
    rw[hs]
    exact XU ak ha _ _) (by simp)
   generalize (⟨17+ak,Qa ⟨xu,xp,xn,xt⟩,3,af,0⟩:Wr)=w1 at*
   rw[xg]at g1
   refine QR QOS fun T=>?_
   (repeat' ((conv=>whnf);first|refine cEk hS ?_|refine CallE.inl ?_|refine CallI.hp g3 [0,1,2,3,4,5] ?_|((refine CallI.wk (Wk.nlTs 12 0 1 37 243 (by with_unfolding_all exact rfl) (by with_unfolding_all exact rfl)) ⟨_,_,_,_,_,_,rfl,rfl,rfl,rfl⟩ ?_);refine CallI.h g1 [12,13] ?_)|refine QB ?_|intro x hx hu|intro h|refine Spp.mk ?_ ?_))
   exact QS
  ·rw [if_neg (fun x=>c2 x.2),if_pos c1]
   cases oe with
   |none=>
    replace hK:FnC Tryz.prog 157 [.d (Qd (some d))] (.tup [.d (.it .i64 0),.d (.bl false)]):=hK
    dsimp only
    rw[Q2 (by decide)]
    refine QR QOS fun T=>?_
    (repeat' ((conv=>whnf);first|refine cEk hS ?_|refine CallE.inl ?_|refine rFk hK ?_|refine QB ?_|intro x hx hu|intro h|refine Spp.mk ?_ ?_))
    exact QS
   |some q=>
    replace hK:FnC Tryz.prog 157 [.d (Qd (some d))] (.tup [.d (.it .i64 (q:Nat)),.d (.bl true)]):=hK
    have hq:=hfe q rfl
    dsimp only
    rw[Z0]
    have g3:=go3 (q:Nat) ⟨by omega,by omega⟩
    have g2:=g2 (q:Nat) ⟨by omega,by omega⟩
    generalize (⟨17+(q:Nat),Qa ⟨xu,xp,xn,xt⟩,3,cf,0⟩:Wr)=w1 at*
    rw[xg]at g2
    have g4:=QJw [.wr w1] (by simp)
    have g5:=QAL [.wr w1,.bar] (by simp) ak (by omega) Q6 af
    rw[QCn]at g5
    generalize (⟨17+ak,Qa Q6,3,af,0⟩:Wr)=w2 at*
    refine QR QOS fun T=>?_
    (repeat' ((conv=>whnf);first|refine cEk hS ?_|refine CallE.inl ?_|refine rFk hK ?_|refine CallI.hp g3 [0,1,2,3,4,5] ?_|refine CallI.h g4 [12,13] ?_|refine CallI.h g5 [12,13] ?_|((refine CallI.wk (Wk.nlTs 12 0 1 37 243 (by with_unfolding_all exact rfl) (by with_unfolding_all exact rfl)) ⟨_,_,_,_,_,_,rfl,rfl,rfl,rfl⟩ ?_);refine CallI.h g2 [12,13] ?_)|refine QB ?_|intro x hx hu|intro h|refine Spp.mk ?_ ?_))
    exact QS
 ·rw [decide_eq_true (by omega)]at hS
  rw[if_neg (fun x=>c1 x.1),if_neg c1]
  dsimp only
  rw[Z0,show((ck.toNat:Nat):Int)=ck by omega]
  have g3:=go3 ck (by omega)
  have g2:=g2 ck (by omega)
  generalize (⟨17+ck,Qa ⟨xu,xp,xn,xt⟩,3,cf,0⟩:Wr)=w1 at*
  rw[xg]at g2
  have g4:=QJw [.wr w1] (by simp)
  have g5:=QAL [.wr w1,.bar] (by simp) ak (by omega) Q6 af
  rw[QCn]at g5
  generalize (⟨17+ak,Qa Q6,3,af,0⟩:Wr)=w2 at*
  refine QR QOS fun T=>?_
  (repeat' ((conv=>whnf);first|refine cEk hS ?_|refine CallE.inl ?_|refine CallI.hp g3 [0,1,2,3,4,5] ?_|refine CallI.h g4 [12,13] ?_|refine CallI.h g5 [12,13] ?_|((refine CallI.wk (Wk.nlTs 12 0 1 37 243 (by with_unfolding_all exact rfl) (by with_unfolding_all exact rfl)) ⟨_,_,_,_,_,_,rfl,rfl,rfl,rfl⟩ ?_);refine CallI.h g2 [12,13] ?_)|refine QB ?_|intro x hx hu|intro h|refine Spp.mk ?_ ?_))
  exact QS
theorem QQ8(p q:List UInt8)(hp:p.length≤100000)(hq:q.length≤100000):FnC Tryz.prog 143 [.d (.st p),.d (.st q)] (.d (.it .i64 (if(Zj p).2.2≠0 then(Zj p).2.2 else(Zj q).2.2))):=by
 have h1:=QIk p hp
 have h2:=QIk q hq
 rw[QF8]at h1 h2
 generalize Zj p=u at*
 generalize Zj q=v at*
 obtain⟨u1,u2,u3⟩:=u
 obtain⟨v1,v2,v3⟩:=v
 dsimp only at*
 replace h1:FnC Tryz.prog 181 [.d (.st p)] (.tup [.d (.st u1),.d (.st u2),.d (.it .i64 u3)]):=h1
 replace h2:FnC Tryz.prog 181 [.d (.st q)] (.tup [.d (.st v1),.d (.st v2),.d (.it .i64 v3)]):=h2
 by_cases c1:u3=0
 ·subst c1
  rw[if_neg (by simp)]
  by_cases c2:v3=0
  ·subst c2
   refine QL QQP ?_
   (repeat' ((conv=>whnf);first|refine cEk h1 ?_|refine cEk h2 ?_|refine CallE.inl ?_|with_reducible refine CallI.inl QA QQS rfl ?_|with_reducible refine ZA.unroll QA 3 ?_|refine QB ?_|intro x hx hu|intro h|refine Spp.mk ?_ ?_))
   rfl
  ·refine QL QQP ?_
   (repeat' ((conv=>whnf);first|refine cEk h1 ?_|refine cEk h2 ?_|refine CallE.inl ?_|with_reducible refine CallI.inl QA QQS rfl ?_|with_reducible refine ZA.unroll QA 3 ?_|refine QB ?_|intro x hx hu|intro h|refine Spp.mk ?_ ?_))
   rfl
 ·rw [if_pos c1]
  refine QL QQP ?_
  (repeat' ((conv=>whnf);first|refine cEk h1 ?_|refine cEk h2 ?_|refine CallE.inl ?_|with_reducible refine CallI.inl QA QQS rfl ?_|with_reducible refine ZA.unroll QA 3 ?_|refine QB ?_|intro x hx hu|intro h|refine Spp.mk ?_ ?_))
  rfl
theorem QNI(a b:List (List UInt8))(ha:a.length≤100000):FnC Tryz.prog 227 [.d (.fs 1 (a.map stL)),.d (.fs 1 (b.map stL))] (.d (.bl (decide (a=b)))):=by
 have hla:(a.map stL).length=a.length:=zb ..
 have hlb:(b.map stL).length=b.length:=zb ..
 refine QL QT1 ?_
 by_cases he:a.length=b.length
 ·(repeat' ((conv=>whnf);first|refine QB ?_|intro x hx hu|intro h|refine Spp.mk ?_ ?_))
  conv=>whnf
  refine QU QA (fun k:Nat=>k≤a.length∧a.take k=b.take k) (fun k=>⟨[(0,.d (.fs 1 (a.map stL))),(1,.d (.fs 1 (b.map stL))),(12,.d (.it .i64 (a.length:Nat))),(13,.d (.it .i64 (k:Nat)))],[],0⟩) (fun k=>a.length-k) 0 ⟨z7 _,rfl⟩ ⟨ai rfl (ai rfl (ai (QQ (by omega)) (ai rfl trivial))),trivial,rfl⟩ ?_
  intro k ⟨k1,k2⟩
  rcases yh k a.length with hkl|hkl
  ·obtain ⟨x,hx⟩:=Qy hkl
   obtain⟨y,hy⟩:=Qy (l:=b) (k:=k) (by omega)
   have h1:x=y→a.take (k+1)=b.take (k+1):=fun h=>by rw[Qo hx,Qo hy,k2,h]
   have h2:¬x=y→decide (a=b)=false:=fun h=>decide_eq_false fun hab=>h (by
    rw[hab,hy]at hx
    exact(za hx).symm)
   (repeat' ((conv=>whnf);first|refine QB ?_|intro x hx hu|intro h|refine Spp.mk ?_ ?_))
   all_goals first
    |(refine again (k+1) ⟨by omega,h1 (by assumption)⟩ (by first|omega|(dsimp only;omega)) (ai rfl (ai rfl (ai rfl (ai (QQ (by omega)) trivial)))) trivial rfl;done)
    |exact ZL (h2 (by assumption)).symm
    |exact ZL (h2 (fun h=>by simp_all)).symm
  ·have h3:decide (a=b)=true:=decide_eq_true (by
    have e1:a.take k=a:=yb (by omega)
    have e2:b.take k=b:=yb (by omega)
    rw[←e1,k2,e2])
   (repeat' ((conv=>whnf);first|refine QB ?_|intro x hx hu|intro h|refine Spp.mk ?_ ?_))
   exact ZL h3.symm
 ·(repeat' ((conv=>whnf);first|refine QB ?_|intro x hx hu|intro h|refine Spp.mk ?_ ?_))
  exact ZL (decide_eq_false fun hab=>he (by rw[hab])).symm
theorem QKH{p q:List UInt8}(h:¬((QO p).2=0∧(QO q).2=0∧(QO q).1.length≤(QO p).1.length)):QC7 p q=false:=decide_eq_false fun x=>h ⟨x.1,x.2.1,x.2.2.1⟩
theorem QNJ(p q:List UInt8)(hp:p.length≤100000)(hq:q.length≤100000):FnC Tryz.prog 183 [.d (.st p),.d (.st q)] (.d (.bl (QC7 p q))):=by
 have h1:=Z7 p hp
 have h2:=Z7 q hq
 have hl1:=ZX p
 have hl2:=ZX q
 have hno:= @QKH p q
 have hE:=QNI ((QO p).1.take (QO q).1.length) (QO q).1 (by rw[z1];omega)
 have hyes:(QO p).2=0→(QO q).2=0→(QO q).1.length≤(QO p).1.length→QC7 p q=decide ((QO p).1.take (QO q).1.length=(QO q).1):=fun a b c=>by
  unfold QC7
  simp only[a,b,c,true_and]
 generalize QC7 p q=r at*
 generalize QO p=u at*
 generalize QO q=v at*
 obtain⟨l1,e1⟩:=u
 obtain⟨l2,e2⟩:=v
 dsimp only at*
 have hla:(l1.map stL).length=l1.length:=zb ..
 have hlb:(l2.map stL).length=l2.length:=zb ..
 replace h1:FnC Tryz.prog 53 [.d (.st p)] (.tup [.d (.fs 1 (l1.map stL)),.d (.it .i64 e1)]):=h1
 replace h2:FnC Tryz.prog 53 [.d (.st q)] (.tup [.d (.fs 1 (l2.map stL)),.d (.it .i64 e2)]):=h2
 by_cases c:e1=0∧e2=0∧l2.length≤l1.length
 ·have hr:=hyes c.1 c.2.1 c.2.2
  have c1:=c.1
  have c2:=c.2.1
  have c3:=c.2.2
  have ht:(l1.take l2.length).map stL=(l1.map stL).take (((l2.map stL).length:Nat):Int).toNat:=by
   rw[ug,hlb];rfl
  rw[ht]at hE
  refine QL QR5 ?_
  (repeat' ((conv=>whnf);first|refine cEk h1 ?_|refine cEk h2 ?_|refine cEk hE ?_|refine QB ?_|intro x hx hu|intro h|refine Spp.mk ?_ ?_))
  all_goals first|(exfalso;omega)|skip
  all_goals exact ZL hr.symm
 ·have hr:=hno c
  refine QL QR5 ?_
  (repeat' ((conv=>whnf);first|refine cEk h1 ?_|refine cEk h2 ?_|refine QB ?_|intro x hx hu|intro h|refine Spp.mk ?_ ?_))
  all_goals first|(exfalso;omega)|skip
  all_goals exact ZL hr.symm
theorem QLM(p q:List UInt8)(hp:p.length≤100000)(hq:q.length≤100000):FnC Tryz.prog 140 [.d (.st p),.d (.st q)] (.d (.bl (QC7 p q))):=by
 have h1:=XS p hp
 have h2:=XS q hq
 have hl1:=ZX p
 have hl2:=ZX q
 have hno:= @QKH p q
 have hyes:(QO p).2=0→(QO q).2=0→(QO q).1.length≤(QO p).1.length→QC7 p q=decide ((QO p).1.take (QO q).1.length=(QO q).1):=fun a b c=>by
  unfold QC7
  simp only[a,b,c,true_and]
 generalize QC7 p q=r at*
 generalize QO p=u at*
 generalize QO q=v at*
 obtain⟨l1,e1⟩:=u
 obtain⟨l2,e2⟩:=v
 dsimp only at*
 have hla:(l1.map stL).length=l1.length:=zb ..
 have hlb:(l2.map stL).length=l2.length:=zb ..
 replace h1:FnC Tryz.prog 120 [.d (.st p)] (.tup [.d (.fs 1 (l1.map stL)),.d (.it .i64 e1)]):=h1
 replace h2:FnC Tryz.prog 120 [.d (.st q)] (.tup [.d (.fs 1 (l2.map stL)),.d (.it .i64 e2)]):=h2
 by_cases c:e1=0∧e2=0∧l2.length≤l1.length
 ·have hr:=hyes c.1 c.2.1 c.2.2
  have c1:=c.1
  have c2:=c.2.1
  have c3:=c.2.2
  refine QL QRv ?_
  (repeat' ((conv=>whnf);first|refine cEk h1 ?_|refine cEk h2 ?_|refine QB ?_|intro x hx hu|intro h|refine Spp.mk ?_ ?_))
  all_goals first|(exfalso;omega)|skip
  conv=>whnf
  refine QU QA (fun k:Nat=>k≤l2.length∧l1.take k=l2.take k) (fun k=>⟨[(5,.d (.fs 1 (l1.map stL))),(7,.d (.fs 1 (l2.map stL))),(9,.d (.it .i64 (k:Nat)))],[],0⟩) (fun k=>l2.length-k) 0 ⟨z7 _,rfl⟩ ⟨(ai rfl (ai rfl (ai rfl trivial))),trivial,rfl⟩ ?_
  intro k ⟨k1,k2⟩
  rcases yh k l2.length with hkl|hkl
  ·obtain ⟨y,hy⟩:=Qy hkl
   obtain⟨x,hx⟩:=Qy (l:=l1) (k:=k) (by omega)
   have h1:x=y→l1.take (k+1)=l2.take (k+1):=fun h=>by rw[Qo hx,Qo hy,k2,h]
   have h2:¬x=y→r=false:=fun h=>by
    rw[hr]
    refine decide_eq_false fun hab=>h ?_
    have:(l1.take l2.length)[k]? =some x:=by rw[x4,if_pos hkl];exact hx
    rw[hab,hy]at this
    exact(za this).symm
   (repeat' ((conv=>whnf);first|refine QB ?_|intro x hx hu|intro h|refine Spp.mk ?_ ?_))
   all_goals first
    |(refine again (k+1) ⟨by omega,h1 (by assumption)⟩ (by first|omega|(dsimp only;omega)) (ai rfl (ai rfl (ai (QQ (by omega)) trivial))) trivial rfl;done)
    |exact ZL (h2 (by assumption)).symm
    |exact ZL (h2 (fun h=>by simp_all)).symm
  ·have h3:r=true:=by
    rw[hr]
    refine decide_eq_true ?_
    have e:l2.length=k:=by omega
    rw[e,k2,yb (by omega)]
   (repeat' ((conv=>whnf);first|refine QB ?_|intro x hx hu|intro h|refine Spp.mk ?_ ?_))
   exact ZL h3.symm
 ·have hr:=hno c
  refine QL QRv ?_
  (repeat' ((conv=>whnf);first|refine cEk h1 ?_|refine cEk h2 ?_|refine QB ?_|intro x hx hu|intro h|refine Spp.mk ?_ ?_))
  all_goals first|(exfalso;omega)|skip
  all_goals exact ZL hr.symm
theorem QLN(frm tq:List UInt8)(hp:frm.length≤100000)(hq:tq.length≤100000):FnC Tryz.prog 145 [.d (.st tq),.d (.st frm)] (.d (.bl (QIu frm tq))):=by
 have h1:=Z7 frm hp
 have h2:=Z7 tq hq
 have h3:=QNJ tq frm hq hp
 have hl1:=ZX frm
 have hl2:=ZX tq
 unfold QIu
 generalize QC7 tq frm=r at*
 generalize QO frm=u at*
 generalize QO tq=v at*
 obtain⟨l1,e1⟩:=u
 obtain⟨l2,e2⟩:=v
 dsimp only at*
 have hla:(l1.map stL).length=l1.length:=zb ..
 have hlb:(l2.map stL).length=l2.length:=zb ..
 replace h1:FnC Tryz.prog 53 [.d (.st frm)] (.tup [.d (.fs 1 (l1.map stL)),.d (.it .i64 e1)]):=h1
 replace h2:FnC Tryz.prog 53 [.d (.st tq)] (.tup [.d (.fs 1 (l2.map stL)),.d (.it .i64 e2)]):=h2
 cases r with
 |true=>
  refine QL QRw ?_
  (repeat' ((conv=>whnf);first|refine cEk h1 ?_|refine cEk h2 ?_|refine cEk h3 ?_|refine QB ?_|intro x hx hu|intro h|refine Spp.mk ?_ ?_))
  rfl
 |false=>
  have hb:decide (((l2.map stL).length:Int)>((l1.map stL).length:Int))=(false||decide (l1.length<l2.length)):=by
   rw[hla,hlb,uh,wc,decide_eq_true_eq,decide_eq_true_eq];omega
  refine QL QRw ?_
  (repeat' ((conv=>whnf);first|refine cEk h1 ?_|refine cEk h2 ?_|refine cEk h3 ?_|refine QB ?_|intro x hx hu|intro h|refine Spp.mk ?_ ?_))
  exact ZL hb
theorem QI7(frm tq:List UInt8)(hp:frm.length≤100000)(hq:tq.length≤100000):FnC Tryz.prog 87 [.d (.st frm),.d (.st tq)] (.d (.bl (QIu frm tq))):=by
 have h1:=XS frm hp
 have h2:=XS tq hq
 have h3:=QLM tq frm hq hp
 have hl1:=ZX frm
 have hl2:=ZX tq
 unfold QIu
 generalize QC7 tq frm=r at*
 generalize QO frm=u at*
 generalize QO tq=v at*
 obtain⟨l1,e1⟩:=u
 obtain⟨l2,e2⟩:=v
 dsimp only at*
 have hla:(l1.map stL).length=l1.length:=zb ..
 have hlb:(l2.map stL).length=l2.length:=zb ..
 replace h1:FnC Tryz.prog 120 [.d (.st frm)] (.tup [.d (.fs 1 (l1.map stL)),.d (.it .i64 e1)]):=h1
 replace h2:FnC Tryz.prog 120 [.d (.st tq)] (.tup [.d (.fs 1 (l2.map stL)),.d (.it .i64 e2)]):=h2
 cases r with
 |true=>
  refine QL i87 ?_
  (repeat' ((conv=>whnf);first|refine cEk h1 ?_|refine cEk h2 ?_|refine cEk h3 ?_|refine QB ?_|intro x hx hu|intro h|refine Spp.mk ?_ ?_))
  rfl
 |false=>
  have hb:decide (((l2.map stL).length:Int)>((l1.map stL).length:Int))=(false||decide (l1.length<l2.length)):=by
   rw[hla,hlb,uh,wc,decide_eq_true_eq,decide_eq_true_eq];omega
  refine QL i87 ?_
  (repeat' ((conv=>whnf);first|refine cEk h1 ?_|refine cEk h2 ?_|refine cEk h3 ?_|refine QB ?_|intro x hx hu|intro h|refine Spp.mk ?_ ?_))
  exact ZL hb
theorem QKI{a b:Nat}(h:b≤4):IntKind.i64.wrap ((a:Int)+(b:Int)-(a:Int))=(b:Int):=by
 rw[show(a:Int)+(b:Int)-(a:Int)=(b:Int) by omega,kq _ (by omega)]
theorem QGL{n q:Nat}{a b:List (List D)}{L:List AV}(hL:L=[.ts n a q])(h:a=b):Ob.cells 1 L=Ob.cells 1 [.ts n b q]:=by rw[hL,h]
theorem QDP{a b:Int}:(if b>a then b else a)=max a b:=by
 split<;>omega
theorem QI8{x:Ino}{had:Nat}{fr:List Int}(h:had+fr.length≤4)(z:Int):
  [AV.d (.it .i64 x.k),.d (.it .i64 z),.d (.it .i64 x.b0),.d (.it .i64 x.b1),.d (.it .i64 x.b2),.d (.it .i64 x.b3)].take (2+had)++(vI fr).flatten.map AV.d++[AV.d (.it .i64 x.k),.d (.it .i64 z),.d (.it .i64 x.b0),.d (.it .i64 x.b1),.d (.it .i64 x.b2),.d (.it .i64 x.b3)].drop (2+had+fr.length)=(Za (Xa x z had fr)).map AV.d:=by
 have c:had=0∨had=1∨had=2∨had=3∨had=4:=by omega
 rcases c with rfl|rfl|rfl|rfl|rfl
 all_goals
  rcases fr with _|⟨a,_|⟨b,_|⟨c,_|⟨d,_|⟨e,fr⟩⟩⟩⟩⟩
  all_goals first|rfl|(exfalso;simp only[yq,xo]at h;omega)
theorem QKJ{P:Program}{ti:Nat→Option Ty}{N:Nat}{ops:List Oper}{σ:S}{K:S→Prop}(h:QX P ti N 5 ops σ K):QX P ti N 5 ops σ K:=h
theorem QKK{P:Program}{ti:Nat→Option Ty}{N:Nat}{ops:List Oper}{σ:S}{K:S→Prop}(h:QX P ti N 7 ops σ K):QX P ti N 7 ops σ K:=h
theorem XP{N:Nat}{σ τ:S}(h:Wk N σ τ):Wk N σ τ:=h
def QSo:Tr:=(.cons 0 (.cons 1 (.cons 2 (.cons 3 (.cons 4 (.cons 5 (.cons 6 (.cons 7 (.cons 8 (.cons 9 .nil .nil) .nil) (.cons 8 (.cons 7 (.cons 9 .nil .nil) .nil) .nil)) (.cons 7 (.cons 6 (.cons 8 (.cons 9 .nil .nil) .nil) .nil) .nil)) .nil) .nil) .nil) .nil) .nil) (.cons 1 (.cons 0 (.cons 2 (.cons 3 (.cons 4 (.cons 5 (.cons 6 (.cons 7 (.cons 8 (.cons 9 .nil .nil) .nil) (.cons 8 (.cons 7 (.cons 9 .nil .nil) .nil) .nil)) (.cons 7 (.cons 6 (.cons 8 (.cons 9 .nil .nil) .nil) .nil) .nil)) .nil) .nil) .nil) .nil) (.cons 2 (.cons 0 (.cons 3 (.cons 4 (.cons 5 (.cons 6 (.cons 7 (.cons 8 (.cons 9 .nil .nil) .nil) (.cons 8 (.cons 7 (.cons 9 .nil .nil) .nil) .nil)) (.cons 7 (.cons 6 (.cons 8 (.cons 9 .nil .nil) .nil) .nil) .nil)) .nil) .nil) .nil) (.cons 3 (.cons 0 (.cons 4 (.cons 5 (.cons 6 (.cons 7 (.cons 8 (.cons 9 .nil .nil) .nil) (.cons 8 (.cons 7 (.cons 9 .nil .nil) .nil) .nil)) (.cons 7 (.cons 6 (.cons 8 (.cons 9 .nil .nil) .nil) .nil) .nil)) .nil) .nil) .nil) .nil)) .nil)) .nil))
def QSp(b:Bool)(bad:List Int)(d:Dk)(T:Nat→Nat)(n:Int)(x:Ino)(off:Int)(c:List UInt8)(had:Nat):S:=⟨[(0,.ptr 5 0),(1,.d (.it .i64 n)),(3,.d (.it .i64 off)),(4,.d (.fs 1 (QD c))),(7,.ptr 9 0),(11,.ptr 10 0),(12,.d (.it .i64 (off+(QD c).length))),(13,.d (.it .i64 (had:Nat)))],(9,.cells 6 [.d (.it .i64 x.k),.d (.it .i64 x.z),.d (.it .i64 x.b0),.d (.it .i64 x.b1),.d (.it .i64 x.b2),.d (.it .i64 x.b3)])::(10,.cells 6 [.d (.it .i64 x.k),.d (.it .i64 x.z),.d (.it .i64 x.b0),.d (.it .i64 x.b1),.d (.it .i64 x.b2),.d (.it .i64 x.b3)])::(Qm b bad d++Qs 6 [0,5] T),12⟩
def QSq(b:Bool)(bad:List Int)(d:Dk)(T:Nat→Nat)(n:Int)(x:Ino)(off:Int)(c:List UInt8)(had:Nat)(z:Int)(fr:List Int)(ok:Bool):S:=⟨[(0,.ptr 5 0),(1,.d (.it .i64 n)),(3,.d (.it .i64 off)),(4,.d (.fs 1 (QD c))),(7,.ptr 9 0),(11,.ptr 10 0),(12,.d (.it .i64 (off+(QD c).length))),(13,.d (.it .i64 (had:Nat))),(14,.d (.fs 1 (vI fr))),(15,.d (.bl ok))],(9,.cells 6 [.d (.it .i64 x.k),.d (.it .i64 x.z),.d (.it .i64 x.b0),.d (.it .i64 x.b1),.d (.it .i64 x.b2),.d (.it .i64 x.b3)])::(10,.cells 6 [.d (.it .i64 x.k),.d (.it .i64 z),.d (.it .i64 x.b0),.d (.it .i64 x.b1),.d (.it .i64 x.b2),.d (.it .i64 x.b3)])::(Qm b bad d++Qs 6 [0,5] T),12⟩
theorem QQ9{x:Ino}{had o q:Nat}{fr:List Int}{C:List AV}{z:Int}(hC:C=[AV.d (.it .i64 x.k),.d (.it .i64 z),.d (.it .i64 x.b0),.d (.it .i64 x.b1),.d (.it .i64 x.b2),.d (.it .i64 x.b3)])(ho:o=2+had)(hq:q=2+had+fr.length)(h:had+fr.length≤4):
  (Za (Xa x z had fr)).map AV.d=C.take o++(vI fr).flatten.map AV.d++C.drop q:=by
 rw[hC,ho,hq,QI8 h]
def ptA(b:Bool)(bad:List Int)(d:Dk)(T:Nat→Nat)(n:Int)(x y:Ino)(off:Int)(c:List UInt8)(had:Nat):Nat×Int→S|(k,p)=>⟨[(0,.ptr 5 0),(1,.d (.it .i64 n)),(3,.d (.it .i64 off)),(4,.d (.fs 1 (QD c))),(7,.ptr 9 0),(11,.ptr 10 0),(12,.d (.it .i64 (off+(QD c).length))),(13,.d (.it .i64 (had:Nat))),(16,.ptr 12 0),(17,.d (.it .i64 p))],(9,.cells 6 [.d (.it .i64 x.k),.d (.it .i64 x.z),.d (.it .i64 x.b0),.d (.it .i64 x.b1),.d (.it .i64 x.b2),.d (.it .i64 x.b3)])::(10,.cells 6 ((Za y).map AV.d))::(12,.cells 1 [.ts 37 ((Z9 (rdS (some d)) n x y had off c k).map Y5) 13])::(13,.tail 243 true)::(Qm b bad d++Qs 6 [0,5] T),14⟩
def ptB(b:Bool)(bad:List Int)(d:Dk)(T:Nat→Nat)(n:Int)(x y:Ino)(off:Int)(c:List UInt8)(had:Nat)(k:Nat)(p q:Int)(L:List Stp)(s:List UInt8):S:=⟨[(0,.ptr 5 0),(1,.d (.it .i64 n)),(3,.d (.it .i64 off)),(4,.d (.fs 1 (QD c))),(7,.ptr 9 0),(11,.ptr 10 0),(12,.d (.it .i64 (off+(QD c).length))),(13,.d (.it .i64 (had:Nat))),(16,.ptr 12 0),(17,.d (.it .i64 p)),(18,.d (.it .i64 (k:Nat))),(19,.d (.it .i64 q)),(20,.ptr 14 0)],(9,.cells 6 [.d (.it .i64 x.k),.d (.it .i64 x.z),.d (.it .i64 x.b0),.d (.it .i64 x.b1),.d (.it .i64 x.b2),.d (.it .i64 x.b3)])::(10,.cells 6 ((Za y).map AV.d))::(12,.cells 1 [.ts 37 (L.map Y5) 13])::(13,.tail 243 true)::(14,.cells 32 ((QJ s).map AV.d))::(Qm b bad d++Qs 6 [0,5] T),15⟩
def QCo:Tr:=(.cons 0 (.cons 1 (.cons 2 (.cons 3 (.cons 4 (.cons 5 (.cons 6 (.cons 7 .nil .nil) (.cons 7 (.cons 6 .nil .nil) .nil)) (.cons 6 (.cons 5 (.cons 7 .nil .nil) .nil) .nil)) .nil) .nil) .nil) (.cons 2 (.cons 1 (.cons 3 (.cons 4 (.cons 5 (.cons 6 (.cons 7 .nil .nil) (.cons 7 (.cons 6 .nil .nil) .nil)) (.cons 6 (.cons 5 (.cons 7 .nil .nil) .nil) .nil)) .nil) .nil) .nil) .nil)) (.cons 1 (.cons 0 (.cons 2 (.cons 3 (.cons 4 (.cons 5 (.cons 6 (.cons 7 .nil .nil) (.cons 7 (.cons 6 .nil .nil) .nil)) (.cons 6 (.cons 5 (.cons 7 .nil .nil) .nil) .nil)) .nil) .nil) .nil) (.cons 2 (.cons 0 (.cons 3 (.cons 4 (.cons 5 (.cons 6 (.cons 7 .nil .nil) (.cons 7 (.cons 6 .nil .nil) .nil)) (.cons 6 (.cons 5 (.cons 7 .nil .nil) .nil) .nil)) .nil) .nil) .nil) .nil)) (.cons 2 (.cons 0 (.cons 1 (.cons 3 (.cons 4 (.cons 5 (.cons 6 (.cons 7 .nil .nil) (.cons 7 (.cons 6 .nil .nil) .nil)) (.cons 6 (.cons 5 (.cons 7 .nil .nil) .nil) .nil)) .nil) .nil) .nil) (.cons 1 (.cons 0 (.cons 3 (.cons 4 (.cons 5 (.cons 6 (.cons 7 .nil .nil) (.cons 7 (.cons 6 .nil .nil) .nil)) (.cons 6 (.cons 5 (.cons 7 .nil .nil) .nil) .nil)) .nil) .nil) .nil) .nil)) .nil)))
theorem Y8{P:Program}{ti:Nat→Option Ty}{N:Nat}{ops:List Oper}{σ:S}{K:S→Prop}(h:QX P ti N 19 ops σ K):QX P ti N 19 ops σ K:=h
theorem QSr{off:Int}{len k:Nat}(h0:0≤off)(hk:off/32≤(k:Int))(hlt:atK off len k<off+len):
  off≤atK off len k∧32*(k:Int)≤atK off len k∧atK off len k<32*(k:Int)+32∧atK off len k<atK off len (k+1)∧atK off len (k+1)≤off+len∧atK off len (k+1)≤32*(k:Int)+32∧atK off len (k+1)=min (32*(k:Int)+32) (off+len)∧QAy off len k=true:=by
 have e1:atK off len k=max off (32*(k:Int)):=by unfold atK at hlt⊢;omega
 have e2:atK off len (k+1)=min (32*(k:Int)+32) (off+len):=by unfold atK;omega
 rw[e1]at hlt⊢
 rw[e2]
 refine⟨by omega,by omega,by omega,by omega,by omega,by omega,rfl,?_⟩
 unfold QAy
 exact decide_eq_true ⟨by omega,by omega,by omega⟩
theorem QRA{off:Int}{len k:Nat}(h:¬atK off len k<off+len):∀i,k≤i→QAy off len i=false:=fun i hi=>by
 unfold QAy atK at*
 exact decide_eq_false (by omega)
theorem QGM{x y:Ino}:JT [.it .i64 y.k,.it .i64 y.z,.it .i64 y.b0,.it .i64 y.b1,.it .i64 y.b2,.it .i64 y.b3] [.it .i64 x.k,.it .i64 x.z,.it .i64 x.b0,.it .i64 x.b1,.it .i64 x.b2,.it .i64 x.b3]=decide (y=x):=by
 obtain⟨a0,a1,a2,a3,a4,a5⟩:=x
 obtain⟨c0,c1,c2,c3,c4,c5⟩:=y
 rw[wc,decide_eq_true_eq]
 simp[JT,eqD]
def fvA(T0:Nat)(bad:List Int)(d:Dk)(j:Nat):S:=⟨[(0,.ptr 0 0),(13,.d (.fs 1 (vI bad))),(14,.d (.it .i64 (bad.length:Nat))),(15,.d (.it .i64 (j:Nat)))],[(7,.mp true false [.it .i64 0] (QAx (bad.take j))),(0,.cells 6 [.mp 7,.d (.it .i64 0),.vx 32 4 0 d.safe.length,.ts 36 (d.wait.map Qn) 1,.ts 38 d.log 2,.d (.it .i64 d.ep)]),(1,.tail 49 true),(2,.tail 110 true),(4,.vec 37 32 (d.safe.map QJ) false),(5,.frame 6 [(0,.ptr 0 0)]),(6,.tag 0 T0)],8⟩
def QSs(u:Nat)(bad:List Int)(d:Dk):List (Nat×Ob):=[(0,.cells 6 [.mp u,.d (.it .i64 d.nx),.vx 32 4 0 d.safe.length,.ts 36 (d.wait.map Qn) 1,.ts 38 d.log 2,.d (.it .i64 d.ep)]),(1,.tail 49 true),(2,.tail 110 true),(4,.vec 37 32 (d.safe.map QJ) false),(u,.mp true false [.it .i64 0] (QAx bad))]
def z0f(d:Dk):Dk:=⟨0,d.safe,d.wait,d.log,d.ep⟩
theorem QNK{b ag:Bool}{tp:List D}{l l':List (List D×D)}(h:l=l'):Ob.mp b ag tp l=Ob.mp b ag tp l':=by rw[h]
theorem QNL(b:Bool)(bad0 bad:List Int)(d:Dk)(hs:d.safe.length≠0)(hl:bad.length≤1000000):FnH Tryz.prog 92 [.ptr 0 0,.d (.fs 1 (vI bad))] (Yk b bad0 d) 5 [0] (.tup []) (QSs 7 bad (z0f d)) 8:=by
 have hn:FnC Tryz.prog 57 [.d (Qd (some d))] (.d (.bl false)):=by
  have:=QAJ (some d)
  rw[show QCj (some d)=false from decide_eq_false hs]at this
  exact this
 have hv:(vI bad).length=bad.length:=zb ..
 refine QR i92 fun T=>?_
 (repeat' ((conv=>whnf);first|refine CallE.inl ?_|refine rFk hn ?_|((with_reducible refine JF ?_);refine OpX.makeMap false [.it .i64 0] rfl rfl ?_)|refine QB ?_|intro x hx hu|intro h|refine Spp.mk ?_ ?_))
 conv=>whnf
 refine QU QA (fun j:Nat=>j≤bad.length) (fvA (T 0) bad d) (fun j=>bad.length-j) 0 (z7 _) ⟨ai rfl (ai rfl (ai (QQ (by rw[hv])) (ai rfl trivial))),(ai rfl (ai rfl (ai rfl (ai rfl (ai rfl (ai rfl (ai rfl trivial))))))),rfl⟩ ?_
 intro j hj
 by_cases hjl:j<bad.length
 ·obtain ⟨x,hx⟩:=Qy hjl
  unfold fvA vI
  unfold vI at hv
  (repeat' ((conv=>whnf);first|((with_reducible refine JF ?_);refine OpX.mapUpdate (kx:= .it .i64 x) rfl rfl Tryz.underlying89 Tryz.underlying3 rfl rfl rfl rfl rfl rfl rfl ?_)|refine QB ?_|intro x hx hu|intro h|refine Spp.mk ?_ ?_))
  refine again (j+1) hjl (by first|omega|(dsimp only;omega)) (ai rfl (ai rfl (ai rfl (ai (QQ (by omega)) trivial)))) (ai (QNK (by rw[Qo hx,QFC];rfl)) (ai rfl (ai rfl (ai rfl (ai rfl (ai rfl (ai rfl trivial))))))) rfl
 ·have hje:j=bad.length:=by omega
  (repeat' ((conv=>whnf);first|refine QB ?_|intro x hx hu|intro h|refine Spp.mk ?_ ?_))
  subst hje
  conv=>whnf
  refine⟨_,⟨fun κ g a w hst=>⟨g,hst⟩⟩,rfl,ai rfl (ai rfl (ai rfl (ai rfl (ai (QNK (by rw[vd])) trivial)))),(ai rfl (ai rfl trivial))⟩
def dk0(l:List (List UInt8)):Dk:=⟨0,l,[],[],0⟩
def QHn(n0 n1 n2 n3 n4:Nat)(b:Bool)(bad:List Int)(d:Dk):List (Nat×Ob):=[(n0,.cells 6 [.mp n3,.d (.it .i64 d.nx),.vx 32 n4 0 d.safe.length,.ts 36 (d.wait.map Qn) n1,.ts 38 d.log n2,.d (.it .i64 d.ep)]),(n1,.tail 49 true),(n2,.tail 110 true),(n3,.mp b false [.it .i64 0] (QAx bad)),(n4,.vec 37 32 (d.safe.map QJ) false)]
theorem QRB{L:List AV}{u n m n1 n2:Nat}(hL:L=[.mp u,.d (.it .i64 0),.vx 32 n 0 m,.ts 36 [] n1,.ts 38 [] n2,.d (.it .i64 0)]){k:Nat}(h:m=k):Ob.cells 6 L=Ob.cells 6 [.mp u,.d (.it .i64 0),.vx 32 n 0 k,.ts 36 [] n1,.ts 38 [] n2,.d (.it .i64 0)]:=by rw[hL,h]
theorem QHo(l:List (List UInt8))(h:1≤l.length∧l.length≤65):FnH Tryz.prog 18 [.d (.fs 32 (l.map QJ))] [] 0 [] (.tup [.ptr 7 0,.d (.it .i64 0)]) (QHn 7 9 10 8 6 false [] (dk0 l)) 11:=by
 have hl:(l.map QJ).length=l.length:=zb ..
 have hne:(l.map QJ).isEmpty=false:=by
  cases l with
  |nil=>simp at h
  |cons=>rfl
 refine QR i18 fun T=>?_
 (repeat' ((conv=>whnf);first|refine CallE.inl ?_|with_reducible refine CallI.inl QA i59 rfl ?_|with_reducible refine CallI.inl QA i60 rfl ?_|with_reducible refine Spl.no hne ?_|((with_reducible refine QB0 ?_);first|refine JD.vec (ai rfl ?_)|refine JD.vec ?_)|refine QB ?_|intro x hx hu|intro h|refine Spp.mk ?_ ?_))
 all_goals first|(exfalso;omega)|skip
 conv=>whnf
 refine⟨⟨[(2,.ptr 7 0),(3,.d (.it .i64 0))],QHn 7 9 10 8 6 false [] (dk0 l)++Qs 0 [] T,11⟩,?_,rfl,(ai rfl (ai rfl (ai rfl (ai rfl (ai rfl trivial))))),(ai rfl trivial)⟩
 refine Wk.trans (Wk.nlMp 7 0 6 false [.it .i64 0] (by with_unfolding_all exact rfl) (by with_unfolding_all exact rfl)) ?_
 refine Wk.trans (Wk.nlTs 7 3 6 36 49 (by with_unfolding_all exact rfl) (by with_unfolding_all exact rfl)) ?_
 refine Wk.trans (Wk.nlTs 7 4 6 38 110 (by with_unfolding_all exact rfl) (by with_unfolding_all exact rfl)) ?_
 exact Wk.en ⟨(ai rfl (ai rfl trivial)),ai (by (conv=>whnf);exact QRB (by with_unfolding_all exact rfl) hl) (ai rfl (ai rfl (ai rfl (ai rfl (ai rfl trivial))))),rfl⟩
theorem QNM(l:List (List UInt8))(h:¬(1≤l.length∧l.length≤65)):FnC Tryz.prog 18 [.d (.fs 32 (l.map QJ))] (.tup [.d (.ot (.pointer none)),.d (.it .i64 1)]):=by
 have hl:(l.map QJ).length=l.length:=zb ..
 refine QL i18 ?_
 (repeat' ((conv=>whnf);first|refine CallE.inl ?_|with_reducible refine CallI.inl QA i59 rfl ?_|refine QB ?_|intro x hx hu|intro h|refine Spp.mk ?_ ?_))
 all_goals first|(exfalso;omega)|skip
 all_goals rfl
theorem QNN(b0 bad:List Int)(hl:bad.length≤100000)(d:Dk):FnH Tryz.prog 39 [.ptr 0 0,.d (.fs 1 (vI bad))] (Qp b0 d) 1 [0] (.tup []) (Qp bad ⟨0,d.safe,d.wait,d.log,d.ep⟩) 1:=by
 have hv:(vI bad).length=bad.length:=zb ..
 refine QR i39 fun T=>?_
 (repeat' ((conv=>whnf);first|refine QB ?_|intro x hx hu|intro h|refine Spp.mk ?_ ?_))
 refine⟨⟨[(0,.ptr 0 0)],[(0,.cells 6 [.d (.fs 32 (d.safe.map QJ)),.d (.fs 36 (d.wait.map Qn)),.d (.it .i64 d.ep),.d (.fs 38 d.log),.d (.fs 1 (vI bad)),.d (.it .i64 0)]),(1,.frame 2 [(0,.ptr 0 0)]),(2,.tag 0 (T 0))],3⟩,Wk.vwL (ai (Vw.eq rfl) trivial) (ai (VwO.cells _ _ _ (.cons (Vw.eq rfl) rfl (.cons (Vw.eq rfl) rfl (.cons (Vw.eq rfl) rfl (.cons (Vw.eq rfl) rfl (.cons (Vw.ts' rfl) rfl (.cons (Vw.eq rfl) rfl .nil))))))) (ai (VwO.same _) (ai (VwO.same _) trivial))) rfl,rfl,ai rfl trivial,ai rfl (ai rfl trivial)⟩
theorem QNO(m:List (List UInt8))(h:¬(1≤m.length∧m.length≤65)):FnC Tryz.prog 19 [.d (Q1 m)] (.tup [.d (.ot (.pointer none)),.d (.it .i64 1)]):=by
 have hml':(m.map QJ).length=m.length:=zb ..
 refine QL i19 ?_
 (repeat' ((conv=>whnf);first|refine CallE.inl ?_|with_reducible refine CallI.inl QA i61 rfl ?_|refine QB ?_|intro x hx hu|intro h|refine Spp.mk ?_ ?_))
 all_goals first|(exfalso;omega)|rfl
def flE(l:List (List UInt8)):List D:=(l.map QJ).flatten
theorem QGN{l:List (List UInt8)}(h:Zx l):(flE l).length=l.length*32:=by
 induction l with
 |nil=>rfl
 |cons x t ih=>
  have hx:(QJ x).length=32:=by rw[ZS];exact h x zu
  show(QJ x++flE t).length=_
  rw[zj,hx,ih fun y hy=>h y (zr _ hy),yq];omega
theorem QNP(l:List (List UInt8))(x:List UInt8):flE (l++[x])=flE l++QJ x:=by
 unfold flE
 rw[yc,W3];simp
def frL(m:List (List UInt8))(i:Nat):List AV:=(flE (m.take i)).map AV.d++List.replicate ((m.length-i)*32) (AV.d (.it .u8 0))
theorem QPW{m:List (List UInt8)}(h:Zx m){i:Nat}(hi:i≤m.length):(frL m i).length=m.length*32:=by
 unfold frL
 rw[zj,zb,QGN (fun s hs=>h s (y9 hs)),kr,z1,←z2]
 congr 1;omega
theorem QNQ{m:List (List UInt8)}(h:Zx m){i:Nat}{x:List UInt8}(hx:m[i]? =some x){p q:Nat}(hp:p=i*32)(hq:q=i*32+32):(frL m i).take p++(QJ x).map AV.d++(frL m i).drop q=frL m (i+1):=by
 subst hp hq
 have hil:=(z6.1 hx).1
 have h1:((flE (m.take i)).map AV.d).length=i*32:=by rw[zb,QGN (fun s hs=>h s (y9 hs)),z1,kf (by omega)]
 unfold frL
 rw[wm (by omega),yb (by omega),jq,List.drop_of_length_le (by omega),xg,h1,j8,Qo hx,QNP,yc]
 congr 2
 have:m.length-i=m.length-(i+1)+1:=by omega
 rw[this,z2];omega
theorem QLO{m:List (List UInt8)}(h:Zx m){i:Nat}{x:List UInt8}(hx:m[i]? =some x){y:List D}(hy:y=QJ x){p q:Nat}(hp:p=i*32)(hq:q=i*32+32):(frL m i).take p++y.map AV.d++(frL m i).drop q=frL m (i+1):=by rw[hy];exact QNQ h hx hp hq
theorem QPX(m:List (List UInt8))(h:Zx m):((frL m m.length).drop 0).take (m.length*32)=(m.map QJ).flatten.map AV.d:=by
 unfold frL
 rw[vd,jx,u4,List.replicate_zero,xf,vr,yb (by rw[zb,QGN h];exact zt _)]
 rfl
theorem QNR{m:List (List UInt8)}{i n:Nat}:(frL m i).all (AV.lt1 n)=true:=by
 unfold frL
 rw[vi,Xd,vy,ze]
 intro x hx
 rw[(List.mem_replicate.1 hx).2];rfl
def QRC(m:List (List UInt8))(i:Nat):S:=⟨[(0,.d (Q1 m)),(4,.ptr 3 0),(6,.d (.it .i64 (i:Nat)))],[(3,.cells 6 [.ms 32 2 0 m.length m.length,.nl 36,.d (.it .i64 0),.nl 38,.nl 1,.d (.it .i64 0)]),(2,.cells (m.length*32) (frL m i)),(0,.frame 1 [])],4⟩
theorem frA_ok(m:List (List UInt8))(i:Nat):(QRC m i).ok=true:=by
 unfold QRC
 simp only[S.ok,y3,xv,Ob.lt,QNR];rfl
theorem QFO(k:Nat):∀n,Z2 n (List.replicate k (D.it .u8 0))=List.replicate (n*k) (D.it .u8 0)
 |0=>by rw[u4];rfl
 |n+1=>by
  show List.replicate k _++Z2 n _=_
  rw[QFO k n,List.replicate_append_replicate]
  congr 1;rw[z2];omega
theorem QNS(m:List (List UInt8))(l:List D)(hl:l=List.replicate 32 (D.it .u8 0)){n:Nat}(hn:n=m.length):(Z2 n l).map toA=frL m 0:=by
 subst hl hn
 rw[QFO,uk]
 rfl
theorem QSt{a b:Nat}(h:a=b):AV.ms 32 2 0 a a=AV.ms 32 2 0 b b:=by rw[h]
theorem QSu{u v:AV}(h:u=v){l:List AV}:Ob.cells 6 (u::l)=Ob.cells 6 (v::l):=by rw[h]
theorem QNT(m:List (List UInt8))(hm:Zx m)(h:1≤m.length∧m.length≤65):FnH Tryz.prog 19 [.d (Q1 m)] [] 0 [] (.tup [.ptr 3 0,.d (.it .i64 0)]) [(3,.cells 6 [.d (.fs 32 (m.map QJ)),.d (.fs 36 []),.d (.it .i64 0),.d (.fs 38 []),.d (.fs 1 []),.d (.it .i64 0)])] 4:=by
 have hml':(m.map QJ).length=m.length:=zb ..
 refine QR i19 fun T=>?_
 (repeat' ((conv=>whnf);first|refine CallE.inl ?_|with_reducible refine CallI.inl QA i61 rfl ?_|refine QB ?_|intro x hx hu|intro h|refine Spp.mk ?_ ?_))
 all_goals first|(exfalso;omega)|skip
 conv=>whnf
 refine QU QA (fun i:Nat=>i≤m.length) (QRC m) (fun i=>m.length-i) 0 (z7 _) ⟨ai rfl (ai rfl (ai rfl trivial)),ai (QSu (QSt hml')) (ai (Qi (by rw[←hml'];simp) (QNS m _ rfl (by rw[←hml'];rfl))) (ai rfl trivial)),frA_ok m 0⟩ ?_
 intro i hi
 have hfl:=QPW hm hi
 rcases yh i m.length with hil|hil
 ·obtain ⟨x,hx⟩:=Qy hil
  have hxs:=hm x (yj hx)
  (repeat' ((conv=>whnf);first|with_reducible refine YN (x:=x) (by omega) hx ?_|with_reducible refine AtA.mk' ?_|refine QB ?_|intro x hx hu|intro h|refine Spp.mk ?_ ?_))
  refine again (i+1) hil (by first|omega|(dsimp only;omega)) (ai rfl (ai rfl (ai (QQ (by omega)) trivial))) (ai rfl (ai (Qi rfl (QLO hm hx (yb (by rw[ZS,hxs];exact zt _)) (by show 0+i*32=i*32;omega) (by show 0+i*32+32=i*32+32;omega))) (ai rfl trivial))) (frA_ok ..)
 ·have hie:i=m.length:=by omega
  subst hie
  (repeat' ((conv=>whnf);first|refine QB ?_|intro x hx hu|intro h|refine Spp.mk ?_ ?_))
  refine⟨⟨[(2,.ptr 3 0),(3,.d (.it .i64 0))],[(3,.cells 6 [.d (.fs 32 (m.map QJ)),.d (.fs 36 []),.d (.it .i64 0),.d (.fs 38 []),.d (.fs 1 []),.d (.it .i64 0)]),(0,.frame 1 [])],4⟩,
   Wk.trans (τ:=⟨[(2,.ptr 3 0),(3,.d (.it .i64 0))],[(3,.cells 6 [.ms 32 2 0 m.length m.length,.d (.fs 36 []),.d (.it .i64 0),.d (.fs 38 []),.d (.fs 1 []),.d (.it .i64 0)]),(2,.cells (m.length*32) (frL m m.length)),(0,.frame 1 [])],4⟩)
    (Wk.vwL (ai (Vw.eq rfl) (ai (Vw.eq rfl) trivial)) (ai (VwO.cells _ _ _ (.cons (Vw.eq rfl) rfl (.cons (Vw.nl' rfl) rfl (.cons (Vw.eq rfl) rfl (.cons (Vw.nl' rfl) rfl (.cons (Vw.nl' rfl) rfl (.cons (Vw.eq rfl) rfl .nil))))))) (ai (VwO.same _) (ai (VwO.same _) trivial))) (by simp only[S.ok,y3,xv,Ob.lt,QNR];rfl))
    (Wk.frzMsOL 2 (m.length*32) (frL m m.length) rfl (ai ⟨_,rfl,.inl rfl⟩ (ai ⟨_,rfl,.inl rfl⟩ trivial)) (ai ⟨rfl,_,rfl,MsO.first (.inr ⟨32,0,m.length,m.length,m.map QJ,rfl,rfl,by omega,hml',(fun x hx=>by obtain⟨y,hy,rfl⟩:=yf.1 hx;rw[ZS];exact hm y hy),QPX m hm⟩) rfl (by simp[AV.sc])⟩ (ai ⟨rfl,_,rfl,.same _⟩ trivial)) rfl),
   rfl,ai rfl trivial,ai rfl trivial⟩
theorem QD5{b:Bool}{bad:List Int}{d:Dk}{N:Nat}(h:Fd bad d N)(hm:JN (Yx (some d))):
  FnH Tryz.prog 20 [.ptr 0 0] (Yk b bad d) 5 [0] (.tup [.ptr 8 0,.d (.it .i64 0)]) ((8,.cells 1 [.ptr 0 0])::Yk b bad d) 9:=by
 have hs:=QJ1 (some d) h.ok
 have hmn:=QDm (some d) h.ok
 rw[decide_eq_true hm]at hmn
 have h0:(QDu (some d)).length≠0:=by have:=h.b.s0;exact this
 have hsl:((QDu (some d)).map QJ).length=(QDu (some d)).length:=zb ..
 refine QR i20 fun T=>?_
 (repeat' ((conv=>whnf);first|refine CallE.inl ?_|refine rFk hmn ?_|refine CallI.byRL (ArF.fr _ _ _ _ (frD (by with_unfolding_all exact rfl) (by with_unfolding_all exact rfl)) .nil) hs (fun h0'=>absurd (hsl.symm.trans (congrArg List.length h0')) h0) (fun off cap hpos=>?_)|refine QB ?_|intro x hx hu|intro h|refine Spp.mk ?_ ?_))
 all_goals first|(exfalso;omega)|skip
 exact QS
theorem QI9{bad:List Int}{d:Dk}(hok:Xg (some d))(hr:InR d)(h0:d.safe.length≠0):
  FnH Tryz.prog 30 [.ptr 0 0] (Qp bad d) 1 [0] (.d (.it .i64 (if JN (QT d)then 0 else 8))) (Qp bad d) 1:=by
 have hNw:=X8 bad d hok hr
 have hm:Zx (QT d):=QHL hok.1 hok.2.1
 have h1:=QF3 (QT d) hm
 replace hNw:FnH Tryz.prog 42 [.ptr 0 0] (Qp bad d) 1 [0] (.d (Q1 (QT d))) (Qp bad d) 1:=hNw
 generalize Q1 (QT d)=E at*
 have hl:(d.safe.map QJ).length=d.safe.length:=zb ..
 by_cases hp:JN (QT d)
 ·rw [decide_eq_true hp]at h1
  rw[if_pos hp]
  refine QR i30 fun T=>?_
  (repeat' ((conv=>whnf);first|refine cEk h1 ?_|refine CallE.inl ?_|refine cPk h1 ?_|refine CallI.h hNw [0] ?_|((with_reducible refine QK ?_);first|refine QH QA mixed (by decide+kernel) ?_|refine QF QA mixed 0 (by decide+kernel) ?_)|refine QB ?_|intro x hx hu|intro h|refine Spp.mk ?_ ?_))
  all_goals first|(exfalso;omega)|skip
  all_goals exact QS
 ·rw [decide_eq_false hp]at h1
  rw[if_neg hp]
  refine QR i30 fun T=>?_
  (repeat' ((conv=>whnf);first|refine cEk h1 ?_|refine CallE.inl ?_|refine cPk h1 ?_|refine CallI.h hNw [0] ?_|((with_reducible refine QK ?_);first|refine QH QA mixed (by decide+kernel) ?_|refine QF QA mixed 0 (by decide+kernel) ?_)|refine QB ?_|intro x hx hu|intro h|refine Spp.mk ?_ ?_))
  all_goals first|(exfalso;omega)|skip
  all_goals exact QS
theorem QNU(d:Dk):Yx (some d)=QT d:=by
 have hl:(QT d).length=d.safe.length:=JO _ _
 refine ve (by rw[hl];unfold Yx;rw[zb,xl]) fun i h1 h2=>?_
 have e:=QIt d (i:Nat) (by omega)
 rw[List.getElem_of_eq (show Yx (some d)=(List.range d.safe.length).map (fun k:Nat=>rdS (some d) (k:Nat))from rfl),zy,xy,e]
 unfold imS
 rw[ut,zk,zi h2];rfl
theorem QGO(bad:List Int)(d:Dk)(hn:0≤d.nx∧d.nx≤1000000)(hb:bad.length≤1000000)(hlg:d.log.length≤1000000)(he: -1000000≤d.ep∧d.ep≤1000000):
  FnH Tryz.prog 64 [.ptr 0 0] (Qp bad d) 1 [0] (.d (.it .i64 (if d.nx∈bad then 3 else 0))) (Qp bad (if d.nx∈bad then tk d else Yj d)) 1:=by
 have hin:FnC Tryz.prog 170 [.d (.fs 1 (vI bad)),.d (.it .i64 (d.nx+1-1))] (.d (.bl (decide (d.nx∈bad)))):=by
  have:=QDo bad (d.nx+1-1) hb
  rwa [show decide (d.nx+1-1∈bad)=decide (d.nx∈bad) by rw[qd]]at this
 by_cases h:d.nx∈bad
 ·rw [decide_eq_true h]at hin
  rw[if_pos h,if_pos h]
  refine QR i64 fun T=>?_
  (repeat' ((conv=>whnf);first|refine cEk hin ?_|refine CallE.inl ?_|with_reducible refine CallI.inl QA QLh rfl ?_|refine QB ?_|intro x hx hu|intro h|refine Spp.mk ?_ ?_))
  all_goals first|(exfalso;omega)|skip
  all_goals exact QS
 ·rw [decide_eq_false h]at hin
  rw[if_neg h,if_neg h]
  refine QR i64 fun T=>?_
  (repeat' ((conv=>whnf);first|refine cEk hin ?_|refine CallE.inl ?_|with_reducible refine CallI.inl QA QLh rfl ?_|refine QB ?_|intro x hx hu|intro h|refine Spp.mk ?_ ?_))
  all_goals first|(exfalso;omega)|skip
  conv=>whnf
  refine⟨⟨[(2,.d (.it .i64 0))],Qp bad (Yj d)++Qs 1 [0] T,30⟩,Wk.vwL (ai (Vw.eq rfl) trivial) (ai (VwO.cells _ _ _ (.cons (Vw.eq rfl) rfl (.cons (Vw.eq rfl) rfl (.cons (Vw.eq rfl) rfl (.cons (Vw.ts' rfl) rfl (.cons (Vw.eq rfl) rfl (.cons (Vw.eq rfl) rfl .nil))))))) (ai (VwO.same _) (ai (VwO.same _) trivial))) rfl,rfl,(ai rfl trivial),(ai rfl (ai rfl trivial))⟩
theorem QSv(last x:List UInt8):(!(Op.bytesLess x last||x==last))=decide (last<x):=by
 by_cases h:last<x
 ·rw [decide_eq_true h]
  have h1:=(Z8 last x).2 h
  have h2:=QDZ _ _ h1
  have h3:(x==last)=false:=by
   refine QJZ fun e=>?_
   rw[e]at h;exact Y6 _ h
  rw[h2,h3];rfl
 ·rw [decide_eq_false h]
  have h1:Op.bytesLess last x=false:=by
   cases hb:Op.bytesLess last x with
   |false=>rfl
   |true=>exact absurd ((Z8 _ _).1 hb) h
  cases h2:Op.bytesLess x last with
  |true=>rfl
  |false=>
   have:=QBO _ _ h2 h1
   rw[this];simp
theorem QRD(x y:List UInt8):Op.bytesLess x y=decide (x<y):=by
 cases h:Op.bytesLess x y with
 |true=>exact(decide_eq_true ((Z8 _ _).1 h)).symm
 |false=>exact(decide_eq_false fun q=>by rw[(Z8 _ _).2 q]at h;cases h).symm
theorem QNV(last:List UInt8)(o:Option (List UInt8))(x:List UInt8):QFD last o x=bif !(Op.bytesLess x last||x==last)then(bif o.isSome then(bif Op.bytesLess x (QDz o)then some x else o)else some x)else o:=by
 rw[QSv]
 cases o with
 |none=>
  show(if last<x then some x else none)=bif decide (last<x)then some x else none
  by_cases h:last<x
  ·rw [if_pos h,decide_eq_true h];rfl
  ·rw [if_neg h,decide_eq_false h];rfl
 |some y=>
  show(if last<x∧x<y then some x else some y)=bif decide (last<x)then(bif Op.bytesLess x y then some x else some y)else some y
  rw[QRD]
  by_cases h:last<x
  ·rw [decide_eq_true h]
   by_cases h2:x<y
   ·rw [if_pos ⟨h,h2⟩,decide_eq_true h2];rfl
   ·rw [if_neg fun q=>h2 q.2,decide_eq_false h2];rfl
  ·rw [if_neg fun q=>h q.1,decide_eq_false h];rfl
def rlA(m:List (List UInt8))(p:Int)(S0:List (List UInt8))(i:Nat):S:=⟨[(0,.d (Q1 m)),(1,.d (.it .i64 p)),(5,.ts 1 (vS (S0.take i)) 1),(6,.d (.st (Zc S0 i)))],[(1,.tail 9 true)],2⟩
def rlB(m:List (List UInt8))(p:Int)(S0:List (List UInt8))(i:Nat)(o:Option (List UInt8))(k:Nat):S:=⟨[(0,.d (Q1 m)),(1,.d (.it .i64 p)),(5,.ts 1 (vS (S0.take i)) 1),(6,.d (.st (Zc S0 i))),(7,.d (.st (QDz o))),(8,.d (.bl o.isSome)),(9,.d (.it .i64 (k:Nat)))],[(1,.tail 9 true)],2⟩
theorem tsV{a b:List (List D)}{n:Nat}(h:a=b):AV.ts 1 a n=AV.ts 1 b n:=by rw[h]
theorem stE{a b:List UInt8}(h:a=b):AV.d (.st a)= .d (.st b):=by rw[h]
theorem blE{a b:Bool}(h:a=b):AV.d (.bl a)= .d (.bl b):=by rw[h]
theorem QJA(m:List (List UInt8))(hm:Zx m)(p:Int):FnC Tryz.prog 88 [.d (Q1 m),.d (.it .i64 p)] (.d (.fs 1 (vS (nms (imS m) p)))):=by
 have he:=fun k=>ZT m hm k
 have hs:=fun k=>QFI m hm k
 have hpk:=QM5 (imS m) p
 have hS24:=QOx (imS m) p
 generalize hS:nms (imS m) p=S0 at hpk hS24⊢
 refine QL i88 ?_
 (repeat' ((conv=>whnf);first|refine QB ?_|intro x hx hu|intro h|refine Spp.mk ?_ ?_))
 conv=>whnf
 refine QU QA (fun i:Nat=>i≤S0.length) (rlA m p S0) (fun i=>S0.length-i) 0 (z7 _) ⟨ai rfl (ai rfl (ai rfl (ai rfl trivial))),ai rfl trivial,rfl⟩ ?_
 intro i hi
 have hpk:=hpk i hi
 have hvl:(vS (S0.take i)).length≤i:=by unfold vS;rw[zb];exact List.length_take_le ..
 (repeat' ((conv=>whnf);first|refine QB ?_|intro x hx hu|intro h|refine Spp.mk ?_ ?_))
 conv=>whnf
 refine QU QA (fun k:Nat=>k≤24) (fun k=>rlB m p S0 i (XT (imS m) p (Zc S0 i) k) k) (fun k=>24-k) 0 (z7 _) ⟨ai rfl (ai rfl (ai rfl (ai rfl (ai rfl (ai rfl (ai rfl trivial)))))),ai rfl trivial,rfl⟩ ?_
 intro k hk
 by_cases hk24:k<24
 ·have hek:=he (k:Nat)
  have hsk:=hs (k:Nat)
  have hyes:=QLF (f:=imS m) (p:=p) (last:=Zc S0 i) (k:=k)
  have hno:=QM4 (f:=imS m) (p:=p) (last:=Zc S0 i) (k:=k)
  by_cases hst:(QI (imS m) k).u=true∧(Qw (imS m) (QI (imS m) k).t).k≠0
  ·rw [decide_eq_true hst]at hsk
   by_cases hpp:(QI (imS m) k).p=p
   ·have hyes:=hyes ⟨hst.1,hpp,hst.2⟩
    rw[QNV]at hyes
    by_cases hg:(!(Op.bytesLess (QI (imS m) (k:Nat)).n (Zc S0 i)||(QI (imS m) (k:Nat)).n==Zc S0 i))=false
    ·rw [hg]at hyes
     have hno:XT (imS m) p (Zc S0 i) (k+1)=XT (imS m) p (Zc S0 i) k:=hyes
     (repeat' ((conv=>whnf);first|refine cEk hek ?_|refine cEk hsk ?_|refine QB ?_|intro x hx hu|intro h|refine Spp.mk ?_ ?_))
     refine again (k+1) hk24 (by dsimp only;omega) (ai rfl (ai rfl (ai rfl (ai rfl (ai (stE (congrArg QDz hno.symm)) (ai (blE (congrArg Option.isSome hno.symm)) (ai (QQ (by omega)) trivial))))))) (ai rfl trivial) rfl
    ·have hg:=(Bool.not_eq_false _).mp hg
     by_cases hio:(XT (imS m) p (Zc S0 i) k).isSome=true
     ·rw [hg,hio]at hyes
      by_cases hb:Op.bytesLess (QI (imS m) (k:Nat)).n (QDz (XT (imS m) p (Zc S0 i) k))=true
      ·rw [hb]at hyes
       have hye:XT (imS m) p (Zc S0 i) (k+1)=some (QI (imS m) (k:Nat)).n:=hyes
       (repeat' ((conv=>whnf);first|refine cEk hek ?_|refine cEk hsk ?_|refine QB ?_|intro x hx hu|intro h|refine Spp.mk ?_ ?_))
       refine again (k+1) hk24 (by dsimp only;omega) (ai rfl (ai rfl (ai rfl (ai rfl (ai (stE (congrArg QDz hye.symm)) (ai (blE (congrArg Option.isSome hye.symm)) (ai (QQ (by omega)) trivial))))))) (ai rfl trivial) rfl
      ·have hb:=Bool.eq_false_iff.2 hb
       rw[hb]at hyes
       have hno:XT (imS m) p (Zc S0 i) (k+1)=XT (imS m) p (Zc S0 i) k:=hyes
       (repeat' ((conv=>whnf);first|refine cEk hek ?_|refine cEk hsk ?_|refine QB ?_|intro x hx hu|intro h|refine Spp.mk ?_ ?_))
       refine again (k+1) hk24 (by dsimp only;omega) (ai rfl (ai rfl (ai rfl (ai rfl (ai (stE (congrArg QDz hno.symm)) (ai (blE (congrArg Option.isSome hno.symm)) (ai (QQ (by omega)) trivial))))))) (ai rfl trivial) rfl
     ·have hio:=Bool.eq_false_iff.2 hio
      rw[hg,hio]at hyes
      have hye:XT (imS m) p (Zc S0 i) (k+1)=some (QI (imS m) (k:Nat)).n:=hyes
      (repeat' ((conv=>whnf);first|refine cEk hek ?_|refine cEk hsk ?_|refine QB ?_|intro x hx hu|intro h|refine Spp.mk ?_ ?_))
      refine again (k+1) hk24 (by dsimp only;omega) (ai rfl (ai rfl (ai rfl (ai rfl (ai (stE (congrArg QDz hye.symm)) (ai (blE (congrArg Option.isSome hye.symm)) (ai (QQ (by omega)) trivial))))))) (ai rfl trivial) rfl
   ·have hno:=hno fun q=>hpp q.2.1
    (repeat' ((conv=>whnf);first|refine cEk hek ?_|refine cEk hsk ?_|refine QB ?_|intro x hx hu|intro h|refine Spp.mk ?_ ?_))
    refine again (k+1) hk24 (by dsimp only;omega) (ai rfl (ai rfl (ai rfl (ai rfl (ai (stE (congrArg QDz hno.symm)) (ai (blE (congrArg Option.isSome hno.symm)) (ai (QQ (by omega)) trivial))))))) (ai rfl trivial) rfl
  ·rw [decide_eq_false hst]at hsk
   have hno:=hno fun q=>hst ⟨q.1,q.2.2⟩
   (repeat' ((conv=>whnf);first|refine cEk hek ?_|refine cEk hsk ?_|refine QB ?_|intro x hx hu|intro h|refine Spp.mk ?_ ?_))
   refine again (k+1) hk24 (by dsimp only;omega) (ai rfl (ai rfl (ai rfl (ai rfl (ai (stE (congrArg QDz hno.symm)) (ai (blE (congrArg Option.isSome hno.symm)) (ai (QQ (by omega)) trivial))))))) (ai rfl trivial) rfl
 ·have hke:k=24:=by omega
  subst hke
  rcases yh i S0.length with hil|hil
  ·obtain ⟨y,hy⟩:=Qy hil
   rw[hy]at hpk
   have hios:(XT (imS m) p (Zc S0 i) 24).isSome=true:=by rw[hpk];rfl
   have hop:QDz (XT (imS m) p (Zc S0 i) 24)=y:=by rw[hpk];rfl
   have hl1:Zc S0 (i+1)=y:=by show S0.getD i []=y;rw[zk,hy];rfl
   have hv1:vS (S0.take i)++[[.st y]]=vS (S0.take (i+1)):=by rw[Qo hy];unfold vS;rw[yc];rfl
   (repeat' ((conv=>whnf);first|refine QB ?_|intro x hx hu|intro h|refine Spp.mk ?_ ?_))
   refine again (i+1) hil (by dsimp only;omega) (ai rfl (ai rfl (ai (tsV ?_) (ai (stE (hop.trans hl1.symm)) trivial)))) (ai rfl trivial) rfl
   show vS (S0.take i)++[[.st (QDz (XT (imS m) p (Zc S0 i) 24))]]=_
   rw[hop];exact hv1
  ·rw [wl hil]at hpk
   have hios:(XT (imS m) p (Zc S0 i) 24).isSome=false:=by rw[hpk];rfl
   (repeat' ((conv=>whnf);first|refine QB ?_|intro x hx hu|intro h|refine Spp.mk ?_ ?_))
   show AV.d (.fs 1 (vS (S0.take i)))=_
   rw[yb hil]
theorem QPY{bad:List Int}{d:Dk}{N:Nat}(h:Fd bad d N)(p:List UInt8)(hp:p.length≤100000):
  FnH Tryz.prog 38 [.ptr 0 0,.d (.st p)] (Qp bad d) 1 [0] (.d (.it .i64 (runP bad d (QAz (imS (QT d)) p)).2)) (Qp bad (runP bad d (QAz (imS (QT d)) p)).1) 1:=by
 have hNw:=X8 bad d h.ok h.r
 have hm:=Jh h
 have hP:=QAO (QT d) hm p hp
 have hk:=QBf (f:=imS (QT d)) (p:=p)
 have hE:=ZT (QT d) hm (ZN (imS (QT d)) p).1.k
 have hK:=Zh (QT d) hm (QI (imS (QT d)) (ZN (imS (QT d)) p).1.k).t
 have hL:=QJA (QT d) hm (QI (imS (QT d)) (ZN (imS (QT d)) p).1.k).t
 unfold QAz QMV
 replace hNw:FnH Tryz.prog 42 [.ptr 0 0] (Qp bad d) 1 [0] (.d (Q1 (QT d))) (Qp bad d) 1:=hNw
 generalize ZN (imS (QT d)) p=a at*
 generalize hn:nms (imS (QT d)) (QI (imS (QT d)) a.1.k).t=ns at*
 generalize QI (imS (QT d)) a.1.k=x at*
 generalize Qw (imS (QT d)) x.t=y at*
 generalize Q1 (QT d)=E at*
 obtain⟨⟨fo,nm,k⟩,e⟩:=a
 obtain⟨xu,xp,xn,xt⟩:=x
 obtain⟨kk,z,b0,b1,b2,b3⟩:=y
 dsimp only at*
 replace hE:FnC Tryz.prog 85 [.d E,.d (.it .i64 k)] (.dg 4 [.bl xu,.it .i64 xp,.st xn,.it .i64 xt]):=hE
 replace hK:FnC Tryz.prog 86 [.d E,.d (.it .i64 xt)] (.dg 6 [.it .i64 kk,.it .i64 z,.it .i64 b0,.it .i64 b1,.it .i64 b2,.it .i64 b3]):=hK
 by_cases c1:e=0
 ·subst c1
  rw[if_neg (by simp)]
  by_cases c2:k<0
  ·rw [if_pos c2,Q2 (by decide)]
   rw[QFN _ _ _ c2]at hP
   refine QR i38 fun T=>?_
   (repeat' ((conv=>whnf);first|refine cEk hP ?_|refine CallE.inl ?_|refine cPk hP ?_|refine CallI.h hNw [0] ?_|((with_reducible refine QK ?_);first|refine QH QA mixed (by decide+kernel) ?_|refine QF QA mixed 0 (by decide+kernel) ?_)|refine QB ?_|intro x hx hu|intro h|refine Spp.mk ?_ ?_))
   all_goals first|(exfalso;omega)|skip
   all_goals exact QS
  ·rw [if_neg c2]
   rw[QD4 _ _ _ (by omega)]at hP
   have g2:=Xj k (by omega) Q6 fo
   have g3:=YP h [⟨17+k,Qa Q6,3,fo,0⟩] (fun s hs=>by
    rw[yy.1 hs];exact XU k (by omega) _ _) (by simp)
   obtain⟨s2,e2⟩:=Zg (ZO Q6)
   replace g3:FnH Tryz.prog 79 [.ptr 0 0,.d (.fs 36 [Qn ⟨17+k,Qa Q6,3,fo,0⟩])] (Qp bad d) 1 [0] (.d (.it .i64 (Qt bad d [.wr ⟨17+k,Qa Q6,3,fo,0⟩]).2)) (Qp bad (Qt bad d [.wr ⟨17+k,Qa Q6,3,fo,0⟩]).1) 1:=g3
   by_cases c3:kk=2
   ·subst c3
    cases ns with
    |nil=>
     rw[if_neg (by simp),Z0]
     generalize Qt bad d [.wr ⟨17+k,Qa Q6,3,fo,0⟩]=R at*
     rw[e2]at g2 g3
     rw[QCn]at g2
     replace hL:FnC Tryz.prog 88 [.d E,.d (.it .i64 xt)] (.d (.fs 1 [])):=hL
     refine QR i38 fun T=>?_
     (repeat' ((conv=>whnf);first|refine cEk hP ?_|refine cEk hE ?_|refine cEk hK ?_|refine cEk hL ?_|refine cEk g2 ?_|refine CallE.inl ?_|refine cPk hP ?_|refine cPk hE ?_|refine cPk hK ?_|refine cPk hL ?_|refine cPk g2 ?_|refine CallI.h hNw [0] ?_|refine CallI.hp g3 [0] ?_|((with_reducible refine QK ?_);first|refine QH QA mixed (by decide+kernel) ?_|refine QF QA mixed 0 (by decide+kernel) ?_)|refine QB ?_|intro x hx hu|intro h|refine Spp.mk ?_ ?_))
     all_goals first|(exfalso;omega)|skip
     all_goals exact QS
    |cons n0 nt=>
     rw[if_pos ⟨rfl,by simp⟩,Q2 (by decide)]
     have hlen:0<(([D.st n0]::vS nt:List (List D)).length):=by simp
     replace hL:FnC Tryz.prog 88 [.d E,.d (.it .i64 xt)] (.d (.fs 1 ([.st n0]::vS nt))):=hL
     refine QR i38 fun T=>?_
     (repeat' ((conv=>whnf);first|refine cEk hP ?_|refine cEk hE ?_|refine cEk hK ?_|refine cEk hL ?_|refine CallE.inl ?_|refine cPk hP ?_|refine cPk hE ?_|refine cPk hK ?_|refine cPk hL ?_|refine CallI.h hNw [0] ?_|((with_reducible refine QK ?_);first|refine QH QA mixed (by decide+kernel) ?_|refine QF QA mixed 0 (by decide+kernel) ?_)|refine QB ?_|intro x hx hu|intro h|refine Spp.mk ?_ ?_))
     all_goals first|(exfalso;omega)|skip
     all_goals exact QS
   ·rw [if_neg (by simp[c3]),Z0]
    generalize Qt bad d [.wr ⟨17+k,Qa Q6,3,fo,0⟩]=R at*
    rw[e2]at g2 g3
    rw[QCn]at g2
    refine QR i38 fun T=>?_
    (repeat' ((conv=>whnf);first|refine cEk hP ?_|refine cEk hE ?_|refine cEk hK ?_|refine cEk g2 ?_|refine CallE.inl ?_|refine cPk hP ?_|refine cPk hE ?_|refine cPk hK ?_|refine cPk g2 ?_|refine CallI.h hNw [0] ?_|refine CallI.hp g3 [0] ?_|((with_reducible refine QK ?_);first|refine QH QA mixed (by decide+kernel) ?_|refine QF QA mixed 0 (by decide+kernel) ?_)|refine QB ?_|intro x hx hu|intro h|refine Spp.mk ?_ ?_))
    all_goals first|(exfalso;omega)|skip
    all_goals exact QS
 ·rw [if_pos c1,Q2 c1]
  rw[QKG _ _ c1]at hP
  refine QR i38 fun T=>?_
  (repeat' ((conv=>whnf);first|refine cEk hP ?_|refine CallE.inl ?_|refine cPk hP ?_|refine CallI.h hNw [0] ?_|((with_reducible refine QK ?_);first|refine QH QA mixed (by decide+kernel) ?_|refine QF QA mixed 0 (by decide+kernel) ?_)|refine QB ?_|intro x hx hu|intro h|refine Spp.mk ?_ ?_))
  all_goals first|(exfalso;omega)|skip
  all_goals exact QS
theorem QPZ{bad:List Int}{d:Dk}{N:Nat}(h:Fd bad d N)(p:List UInt8)(hp:p.length≤100000)(tq:Int):
  FnH Tryz.prog 36 [.ptr 0 0,.d (.st p),.d (.it .i64 tq)] (Qp bad d) 1 [0] (.d (.it .i64 (runP bad d (QBZ (imS (QT d)) p tq)).2)) (Qp bad (runP bad d (QBZ (imS (QT d)) p tq)).1) 1:=by
 have hNw:=X8 bad d h.ok h.r
 have hm:=Jh h
 have hP:=QBh (QT d) hm p hp
 have hn:=QA4 (imS (QT d)) p
 have hz:=QEo (XO (imS (QT d)) p)
 unfold QBZ QOy
 replace hNw:FnH Tryz.prog 42 [.ptr 0 0] (Qp bad d) 1 [0] (.d (Q1 (QT d))) (Qp bad d) 1:=hNw
 generalize ZJ (imS (QT d)) p=q at*
 generalize Q1 (QT d)=E at*
 obtain⟨n,⟨k,z,b0,b1,b2,b3⟩,e⟩:=q
 dsimp only at*
 replace hP:FnC Tryz.prog 81 [.d E,.d (.st p)] (.tup [.d (.it .i64 n),.dg 6 [.it .i64 k,.it .i64 z,.it .i64 b0,.it .i64 b1,.it .i64 b2,.it .i64 b3],.d (.it .i64 e)]):=hP
 by_cases c1:e=0
 ·subst c1
  rw[if_neg (by simp)]
  by_cases c2:tq<0∨z<tq
  ·rw [if_pos c2,Q2 (by decide)]
   refine QR i36 fun T=>?_
   (repeat' ((conv=>whnf);first|refine cEk hP ?_|refine CallE.inl ?_|refine cPk hP ?_|refine CallI.h hNw [0] ?_|((with_reducible refine QK ?_);first|refine QH QA mixed (by decide+kernel) ?_|refine QF QA mixed 0 (by decide+kernel) ?_)|refine QB ?_|intro x hx hu|intro h|refine Spp.mk ?_ ?_))
   all_goals first|(exfalso;omega)|skip
   all_goals exact QS
  ·rw [if_neg c2]
   by_cases c3:tq=z
   ·subst c3
    rw[if_pos rfl,Z0]
    refine QR i36 fun T=>?_
    (repeat' ((conv=>whnf);first|refine cEk hP ?_|refine CallE.inl ?_|refine cPk hP ?_|refine CallI.h hNw [0] ?_|((with_reducible refine QK ?_);first|refine QH QA mixed (by decide+kernel) ?_|refine QF QA mixed 0 (by decide+kernel) ?_)|refine QB ?_|intro x hx hu|intro h|refine Spp.mk ?_ ?_))
    all_goals first|(exfalso;omega)|skip
    all_goals exact QS
   ·rw [if_neg c3,Z0]
    have hnd:=Ja tq (by omega) (by omega)
    have c4:(tq+31)/32=0∨(tq+31)/32=1∨(tq+31)/32=2∨(tq+31)/32=3∨(tq+31)/32=4:=by omega
    rcases c4 with c4|c4|c4|c4|c4
    all_goals (
     have g2:=QD2 n (by omega) (trI ⟨k,z,b0,b1,b2,b3⟩ tq) 2 n
     have g3:=YP h [⟨1+n,Zz (trI ⟨k,z,b0,b1,b2,b3⟩ tq),2,n,0⟩] (fun s hs=>by
      rw[yy.1 hs];exact QD1 n (by omega) _ _ _) (by simp)
     obtain⟨s2,e2⟩:=Zg (Xi (trI ⟨k,z,b0,b1,b2,b3⟩ tq))
     replace g3:FnH Tryz.prog 79 [.ptr 0 0,.d (.fs 36 [Qn ⟨1+n,Zz (trI ⟨k,z,b0,b1,b2,b3⟩ tq),2,n,0⟩])] (Qp bad d) 1 [0] (.d (.it .i64 (Qt bad d [.wr ⟨1+n,Zz (trI ⟨k,z,b0,b1,b2,b3⟩ tq),2,n,0⟩]).2)) (Qp bad (Qt bad d [.wr ⟨1+n,Zz (trI ⟨k,z,b0,b1,b2,b3⟩ tq),2,n,0⟩]).1) 1:=g3
     generalize Qt bad d [.wr ⟨1+n,Zz (trI ⟨k,z,b0,b1,b2,b3⟩ tq),2,n,0⟩]=R at*
     rw[e2]at g2 g3
     rw[c4]at hnd
     unfold trI nd at g2
     rw[c4]at g2
     refine QR i36 fun T=>?_
     (repeat' ((conv=>whnf);first|refine cEk hP ?_|refine cEk hnd ?_|refine cEk g2 ?_|refine CallE.inl ?_|refine cPk g2 ?_|refine CallI.h hNw [0] ?_|refine CallI.hp g3 [0] ?_|with_reducible refine ZA.unroll QA 5 ?_|((with_reducible refine QK ?_);first|refine QH QA mixed (by decide+kernel) ?_|refine QF QA mixed 0 (by decide+kernel) ?_)|refine QB ?_|intro x hx hu|intro h|refine Spp.mk ?_ ?_))
     all_goals first|(exfalso;omega)|skip
     all_goals exact QS)
 ·rw [if_pos c1,Q2 c1]
  refine QR i36 fun T=>?_
  (repeat' ((conv=>whnf);first|refine cEk hP ?_|refine CallE.inl ?_|refine cPk hP ?_|refine CallI.h hNw [0] ?_|((with_reducible refine QK ?_);first|refine QH QA mixed (by decide+kernel) ?_|refine QF QA mixed 0 (by decide+kernel) ?_)|refine QB ?_|intro x hx hu|intro h|refine Spp.mk ?_ ?_))
  all_goals first|(exfalso;omega)|skip
  all_goals exact QS
def QUX:D→Bool
 | .it .. =>true
 |_=>false
theorem QGP:∀l:List D,l.all QUX=true→JT l l=true
 |[],_=>rfl
 |x::t,h=>by
  rw[y3,zf]at h
  show(eqD x x&&JT t t)=true
  rw[QGP t h.2,wo]
  cases x<;>first|(cases h.1;done)|simp[eqD]
theorem QSw{b:Bool}(h:b=true):(!b)=false:=by rw[h];rfl
theorem QKL{b:Bool}{A B:Prop}(h:Spl b A B):Spl b A B:=h
theorem QPa(l:List (Int×Int))(hl:l.length≤100000):FnC Tryz.prog 66 [.d (.fs 2 (l.map QBY)),.d (.fs 2 (l.map QBY))] (.d (.bl true)):=by
 have hv:(l.map QBY).length=l.length:=zb ..
 refine QL i66 ?_
 (repeat' ((conv=>whnf);first|refine QB ?_|intro x hx hu|intro h|refine Spp.mk ?_ ?_))
 conv=>whnf
 refine QU QA (fun k:Nat=>k≤l.length) (fun k=>⟨[(0,.d (.fs 2 (l.map QBY))),(1,.d (.fs 2 (l.map QBY))),(5,.d (.it .i64 (k:Nat)))],[],0⟩) (fun k=>l.length-k) 0 (z7 _) ⟨(ai rfl (ai rfl (ai rfl trivial))),trivial,rfl⟩ ?_
 intro k hk
 by_cases hkl:k<l.length
 ·obtain ⟨x,hx⟩:=Qy hkl
  have hxe:(l.map QBY)[k]? =some (QBY x):=by rw[yr,hx];rfl
  obtain⟨xa,xb⟩:=x
  (repeat' ((conv=>whnf);first|((with_reducible refine QKL ?_);refine Spl.no (QSw (QGP _ rfl)) ?_)|with_reducible refine AtA.mk' ?_|refine QAd hxe ?_|refine QB ?_|intro x hx hu|intro h|refine Spp.mk ?_ ?_))
  refine again (k+1) hkl (by first|omega|(dsimp only;omega)) (ai rfl (ai rfl (ai (QQ (by omega)) trivial))) trivial rfl
 ·(repeat' ((conv=>whnf);first|refine QB ?_|intro x hx hu|intro h|refine Spp.mk ?_ ?_))
  rfl
theorem QKM(es:List Evt)(hw:∀e∈es,e.w.s.length=32∧e.t.length≤1000)(hl:es.length≤100000):FnC Tryz.prog 26 [.d (.fs 38 (es.map X9)),.d (.fs 38 (es.map X9))] (.d (.bl true)):=by
 have hv:(es.map X9).length=es.length:=zb ..
 refine QL i26 ?_
 (repeat' ((conv=>whnf);first|refine QB ?_|intro x hx hu|intro h|refine Spp.mk ?_ ?_))
 conv=>whnf
 refine QU QA (fun k:Nat=>k≤es.length) (fun k=>⟨[(0,.d (.fs 38 (es.map X9))),(1,.d (.fs 38 (es.map X9))),(5,.d (.it .i64 (k:Nat)))],[],0⟩) (fun k=>es.length-k) 0 (z7 _) ⟨(ai rfl (ai rfl (ai rfl trivial))),trivial,rfl⟩ ?_
 intro k hk
 by_cases hkl:k<es.length
 ·obtain ⟨x,hx⟩:=Qy hkl
  have hxs:=hw x (yj hx)
  have hxe:(es.map X9)[k]? =some (X9 x):=by rw[yr,hx];rfl
  obtain⟨xk,⟨xa,xs,xt,xi,xe⟩,tg⟩:=x
  have ht:=QPa tg (by have:=hxs.2;dsimp only at this;omega)
  obtain⟨g,rfl⟩:=Zg hxs.1
  (repeat' ((conv=>whnf);first|((with_reducible refine QKL ?_);refine Spl.no (QSw (QGP _ rfl)) ?_)|with_reducible refine AtA.mk' ?_|refine QAd hxe ?_|refine cEk ht ?_|refine ZQ.mk ⟨_,ht,?_⟩|refine QB ?_|intro x hx hu|intro h|refine Spp.mk ?_ ?_))
  refine again (k+1) hkl (by first|omega|(dsimp only;omega)) (ai rfl (ai rfl (ai (QQ (by omega)) trivial))) trivial rfl
 ·(repeat' ((conv=>whnf);first|refine QB ?_|intro x hx hu|intro h|refine Spp.mk ?_ ?_))
  rfl
theorem QD6{α:Type}{l:List α}{k:Nat}{c:α}(h:l[k]? =some c):l.take k++[c]++l.drop (k+1)=l:=by
 obtain⟨h1,h2⟩:=z6.1 h
 rw[y5,kp,←h2,←wn h1,js]
theorem QNW(es:List (List D))(hl:es.length≤100000):FnC Tryz.prog 68 [.d (.fs 2 es)] (.d (.fs 2 es)):=by
 refine QL i68 ?_
 (repeat' ((conv=>whnf);first|refine QB ?_|intro x hx hu|intro h|refine Spp.mk ?_ ?_))
 all_goals first|rfl|(obtain rfl:es=[]:=(by cases es with|nil=>rfl|cons=>(rename_i h _;cases h));rfl)
def lvA(b:Bool)(bad:List Int)(d:Dk)(es:List Evt)(T0:Nat)(k:Nat):S:=⟨[(3,.vx 38 10 0 es.length),(13,.d (.it .i64 (es.length:Nat))),(14,.d (.it .i64 (k:Nat)))],(10,.vec 110 38 (es.map X9) false)::[(0,.cells 6 [.mp 3,.d (.it .i64 d.nx),.vx 32 4 0 d.safe.length,.ts 36 (d.wait.map Qn) 1,.ts 38 (es.map X9) 2,.d (.it .i64 d.ep)]),(1,.tail 49 true),(2,.tail 110 true),(3,.mp b false [.it .i64 0] (QAx bad)),(4,.vec 37 32 (d.safe.map QJ) false),(5,.frame 6 [(0,.ptr 0 0)]),(6,.tag 0 T0)],11⟩
theorem QPb(b:Bool)(bad:List Int)(d:Dk)(es:List Evt)(hl:d.log=es.map X9)(hs:d.safe.length≠0)(hlen:es.length≤100000)(hw0:es≠[])(hw:∀e∈es,e.w.s.length=32∧e.t.length≤1000):FnH Tryz.prog 27 [.ptr 0 0] (Yk b bad d) 5 [0] (.d (.fs 38 d.log)) (Yk b bad d) 5:=by
 have hn:FnC Tryz.prog 57 [.d (Qd (some d))] (.d (.bl false)):=by
  have:=QAJ (some d)
  rw[show QCj (some d)=false from decide_eq_false hs]at this
  exact this
 have hne:(es.map X9).isEmpty=false:=by
  cases es with
  |nil=>exact absurd rfl hw0
  |cons=>rfl
 have hll:(es.map X9).length=es.length:=zb ..
 have hd:Yk b bad d=[(0,.cells 6 [.mp 3,.d (.it .i64 d.nx),.vx 32 4 0 d.safe.length,.ts 36 (d.wait.map Qn) 1,.ts 38 (es.map X9) 2,.d (.it .i64 d.ep)]),(1,.tail 49 true),(2,.tail 110 true),(3,.mp b false [.it .i64 0] (QAx bad)),(4,.vec 37 32 (d.safe.map QJ) false)]:=by rw[←hl];rfl
 have he:Qd (some d)=D.fp 6 [.an,.it .i64 d.nx,.fs 32 (d.safe.map QJ),.fs 36 (d.wait.map Qn),.fs 38 (es.map X9),.it .i64 d.ep]:=by rw[←hl];rfl
 have hv:∀ {mem:List (Nat×Ob)},Sy.look 0 mem=some (.cells 6 [.mp 3,.d (.it .i64 d.nx),.vx 32 4 0 d.safe.length,.ts 36 (d.wait.map Qn) 1,.ts 38 (es.map X9) 2,.d (.it .i64 d.ep)])→Sy.look 4 mem=some (.vec 37 32 (d.safe.map QJ) false)→FrA mem [.ptr 0 0] [Qd (some d)]:=fun{mem} h0 h4=>frD (by rw[←hl]at h0;exact h0) h4
 rw[hd,hl]
 refine QR i27 fun T=>?_
 (repeat' ((conv=>whnf);first|refine CallE.inl ?_|((with_reducible refine QB0 ?_);first|refine JD.vec (ai rfl ?_)|refine JD.vec ?_)|with_reducible refine Spl.no hne ?_|refine CallI.byR (YU.mkF ⟨_,_,ArF.fr _ _ _ _ (hv (by with_unfolding_all exact rfl) (by with_unfolding_all exact rfl)) ArF.nil,hn,(by with_unfolding_all exact rfl),?_⟩)|with_reducible refine CallI.inl QA i67 rfl ?_|refine QB ?_|intro x hx hu|intro h|refine Spp.mk ?_ ?_))
 conv=>whnf
 refine QU QA (fun k:Nat=>k≤es.length) (lvA b bad d es (T 0)) (fun k=>es.length-k) 0 (z7 _) ⟨ai (QP5 hll) (ai (QQ (by rw[hll])) (ai rfl trivial)),(ai rfl (ai rfl (ai rfl (ai rfl (ai rfl (ai rfl (ai rfl (ai rfl trivial)))))))),rfl⟩ ?_
 intro k hk
 by_cases hkl:k<es.length
 ·obtain ⟨x,hx⟩:=Qy hkl
  have hxs:=hw x (yj hx)
  obtain⟨xk,⟨xa,xs,xt,xi,xe⟩,tg⟩:=x
  have ht:=QNW (tg.map QBY) (by rw[zb];have:=hxs.2;dsimp only at this;omega)
  obtain⟨g,rfl⟩:=Zg hxs.1
  have hxe:(es.map X9)[k]? =some (X9 ⟨xk,⟨xa,Qx g,xt,xi,xe⟩,tg⟩):=by rw[yr,hx];rfl
  have hsm:=QD6 hxe
  have hxe0:(es.map X9)[0+((k:Nat):Int).toNat]? =some (X9 ⟨xk,⟨xa,Qx g,xt,xi,xe⟩,tg⟩):=by rw[y6];exact hxe
  have hsm0:=QD6 hxe0
  (repeat' ((conv=>whnf);first|with_reducible refine AtA.mk' ?_|refine QAd hxe ?_|refine QAd hxe0 ?_|refine cEk ht ?_|((with_reducible refine JF ?_);refine OpX.storeF (es2:=es.map X9) QA rfl rfl rfl (by with_unfolding_all exact rfl) (by with_unfolding_all exact rfl) (by with_unfolding_all exact rfl) (by with_unfolding_all exact rfl) rfl rfl rfl rfl hxe0 hsm0.symm ?_)|refine QB ?_|intro x hx hu|intro h|refine Spp.mk ?_ ?_))
  refine again (k+1) hkl (by first|omega|(dsimp only;omega)) (ai rfl (ai rfl (ai (QQ (by omega)) trivial))) (ai rfl (ai rfl (ai rfl (ai rfl (ai rfl (ai rfl (ai rfl (ai rfl trivial)))))))) rfl
 ·have hke:k=es.length:=by omega
  (repeat' ((conv=>whnf);first|refine QB ?_|intro x hx hu|intro h|refine Spp.mk ?_ ?_))
  refine⟨⟨[(2,.d (.fs 38 (es.map X9)))],[(0,.cells 6 [.mp 3,.d (.it .i64 d.nx),.vx 32 4 0 d.safe.length,.ts 36 (d.wait.map Qn) 1,.ts 38 (es.map X9) 2,.d (.it .i64 d.ep)]),(1,.tail 49 true),(2,.tail 110 true),(3,.mp b false [.it .i64 0] (QAx bad)),(4,.vec 37 32 (d.safe.map QJ) false),(5,.frame 6 [(0,.ptr 0 0)]),(6,.tag 0 (T 0))],11⟩,
   Wk.frzL 10 110 38 (es.map X9) false (by with_unfolding_all exact rfl) (ai (Fz.vx 0 es.length _ (by rw[hll];omega) (by rw[vr,yb (by rw[hll];exact zt _)])) trivial) (ai rfl (ai (FzO.same _) (ai rfl (ai (FzO.same _) (ai rfl (ai (FzO.same _) (ai rfl (ai (FzO.same _) (ai rfl (ai (FzO.same _) (ai rfl (ai (FzO.same _) (ai rfl (ai (FzO.same _) trivial)))))))))))))) rfl,rfl,(ai rfl (ai rfl (ai rfl (ai rfl (ai rfl trivial))))),(ai rfl (ai rfl trivial))⟩
def uD(f:Int→List UInt8):List Bool:=(List.range 25).map fun b:Nat=>decide (b=0)||QDs f (b:Nat)
theorem QSx(f:Int→List UInt8)(j:Nat)(h:j<(uD f).length):(uD f)[j]=(decide (j=0)||QDs f (j:Nat)):=by simp only[uD,zy,xy]
theorem QSy{f:Int→List UInt8}{R:List Bool}(hl:R.length=25)(h:∀j:Nat,1≤j→j<25→R.getD j false=usK f 16 (j:Nat)):R.set 0 true=uD f:=by
 refine ve (by rw[vo,hl];unfold uD;simp) fun j h1 h2=>?_
 rw[QSx,vp]
 rw[vo,hl]at h1
 by_cases hj:0=j
 ·rw [if_pos hj,decide_eq_true hj.symm,Bool.true_or]
 ·rw [if_neg hj,decide_eq_false (fun e=>hj e.symm),uh]
  have:=h j (by omega) h1
  rw[zk,zi (by omega)]at this
  exact this
theorem QRE(f:Int→List UInt8)(j:Nat)(h1:1≤j)(h2:j<25):(uD f).getD j false=QDs f (j:Nat):=by
 unfold uD
 rw[zk,yr,jd h2]
 show(decide (j=0)||_)=_
 rw[decide_eq_false (by omega),uh]
theorem QRF{x:Ino}(h:RI x)(hk:x.k≠1)(j:Nat)(hj:1≤j):((j:Nat):Int)∉Jv x:=by
 rcases h with h|h
 ·unfold Jv
  rw[h.2.2.1,h.2.2.2.1,h.2.2.2.2.1,h.2.2.2.2.2]
  simp;omega
 ·exact absurd h.1 hk
def F25:List Bool:=List.replicate 25 false
def usS(E:D)(R:List Bool)(k:Nat):S:=⟨[(0,.d E),(2,.ptr 0 0),(3,.ptr 1 0),(4,.d (.it .i64 (k:Nat)))],[(0,.cells 25 ((F25.map D.bl).map .d)),(1,.cells 25 ((R.map D.bl).map .d))],2⟩
theorem QGQ(E:D)(R:List Bool)(k:Nat):(usS E R k).ok=true:=by
 unfold usS
 simp only[S.ok,y3,xv,Ob.lt,Xd];rfl
def QRG(E:D)(R:List Bool)(k:Nat)(B:List D)(i:Nat):S:=⟨[(0,.d E),(2,.ptr 0 0),(3,.ptr 1 0),(4,.d (.it .i64 (k:Nat))),(5,.ptr 2 0),(6,.d (.it .i64 (i:Nat)))],[(0,.cells 25 ((F25.map D.bl).map .d)),(1,.cells 25 ((R.map D.bl).map .d)),(2,.cells 6 (B.map .d))],3⟩
theorem QKN(E:D)(R:List Bool)(k:Nat)(B:List D)(i:Nat):(QRG E R k B i).ok=true:=by
 unfold QRG
 simp only[S.ok,y3,xv,Ob.lt,Xd];rfl
def allT(_:Int):Bool:=true
theorem QUY{R:List Bool}{N:Nat}{ty:Ty}{a:List AV}(hx:a=(R.map D.bl).map AV.d)(h:R.length=N)(ha:ty.kd.agg=true)(hz:ty.size=N):ldA ty 0 a= .dg N (R.map D.bl):=by rw[hx];exact QPO h ha hz
theorem QNX(m:List (List UInt8))(hm:Zx m):FnC Tryz.prog 136 [.d (Q1 m)] (.dg 25 ((uD (imS m)).map D.bl)):=by
 have ht:=fun n=>QCk m hm n
 have he:=fun n=>Zh m hm n
 have hRI:=fun n=>QDr (imS m) n
 generalize Q1 m=E at*
 refine QL QTX ?_
 (repeat' ((conv=>whnf);first|refine QB ?_|intro x hx hu|intro h|refine Spp.mk ?_ ?_))
 conv=>whnf
 refine QU QA (fun x:Nat×List Bool=>x.1≤16∧x.2.length=25∧∀j:Nat,1≤j→j<25→x.2.getD j false=usK (imS m) x.1 (j:Nat)) (fun|(k,R)=>usS E R k) (fun x=>16-x.1) (0,F25) ⟨z7 _,rfl,fun j _ hj=>by unfold F25;rw[zk,Wg,if_pos hj];rfl⟩ ⟨(ai rfl (ai rfl (ai rfl (ai rfl trivial)))),ai (Qi rfl (by with_unfolding_all exact rfl)) (ai (Qi rfl (by with_unfolding_all exact rfl)) trivial),QGQ ..⟩ ?_
 intro⟨k,R⟩ hk0
 have hk:=hk0.1
 have hl:=hk0.2.1
 have hR:=hk0.2.2
 dsimp only at hk hl hR
 by_cases hk16:k<16
 ·have hx:=he (k:Nat)
  have hxR:=hRI (k:Nat)
  have hT:=ht (k:Nat)
  have hus:=fun h b=>QKD (f:=imS m) (k:=k) h b
  have hun:=fun h b=>QM8 (f:=imS m) (k:=k) h b
  generalize Qw (imS m) (k:Nat)=x at*
  have hbr:=QHh hxR
  have hbg:= @QHi x
  have hbz:=QRF hxR
  have hxe:Za x=[.it .i64 x.k,.it .i64 x.z,.it .i64 x.b0,.it .i64 x.b1,.it .i64 x.b2,.it .i64 x.b3]:=rfl
  rw[hxe]at hx
  have hsame:(¬XZ (imS m) (k:Nat)∨x.k≠1)→∀j:Nat,1≤j→j<25→R.getD j false=usK (imS m) (k+1) (j:Nat):=fun h j h1 h2=>by
   rw[hR j h1 h2]
   by_cases hq:XZ (imS m) (k:Nat)
   ·rw [hus hq,decide_eq_false (hbz (h.resolve_left (fun x=>x hq)) j h1),qi]
   ·rw [hun hq]
  by_cases hk1:x.k=1
  ·rw [hk1]at hx
   by_cases hq:XZ (imS m) (k:Nat)
   ·rw [decide_eq_true hq]at hT
    (repeat' ((conv=>whnf);first|refine cEk hx ?_|refine cEk hT ?_|refine QB ?_|intro x hx hu|intro h|refine Spp.mk ?_ ?_))
    conv=>whnf
    refine QU QA (fun y:Nat×List Bool=>y.1≤4∧y.2=mkS allT R ((Jv x).take y.1)) (fun|(i,R')=>QRG E R' k [.it .i64 1,.it .i64 x.z,.it .i64 x.b0,.it .i64 x.b1,.it .i64 x.b2,.it .i64 x.b3] i) (fun y=>4-y.1) (0,R) ⟨z7 _,rfl⟩ ⟨(ai rfl (ai rfl (ai rfl (ai rfl (ai rfl (ai rfl trivial)))))),(ai rfl (ai rfl (ai rfl trivial))),QKN ..⟩ ?_
    intro⟨i,R'⟩ hi0
    have hi4:=hi0.1
    have hR':=hi0.2
    dsimp only at hi4 hR'
    have hl':R'.length=25:=by rw[hR',QGH];exact hl
    by_cases hi44:i<4
    ·have hb:=hbg i hi44
     have hbr':=hbr _ (yj hb)
     have hst:R'.set (Q0 x i).toNat (allT (Q0 x i))=mkS allT R ((Jv x).take (i+1)):=by rw[Qo hb,QHg,←hR']
     have htl:(Q0 x i).toNat<R'.length:=by omega
     have hi3:i=0∨i=1∨i=2∨i=3:=by omega
     rcases hi3 with rfl|rfl|rfl|rfl
     all_goals (
      simp only[Q0]at hst hbr' htl
      (repeat' ((conv=>whnf);first|refine QB ?_|intro x hx hu|intro h|refine Spp.mk ?_ ?_))
      refine again (_+1,R'.set _ true) ⟨by omega,hst⟩ (by first|omega|(dsimp only;omega)) (ai rfl (ai rfl (ai rfl (ai rfl (ai rfl (ai (QQ (by first|omega|(dsimp only;omega))) trivial)))))) (ai rfl (ai (Qi rfl (stR htl rfl rfl)) (ai rfl trivial))) (QKN ..))
    ·have hi:i=4:=by omega
     have hall:(Jv x).take i=Jv x:=by rw[hi];rfl
     rw[hall]at hR'
     (repeat' ((conv=>whnf);first|refine QB ?_|intro x hx hu|intro h|refine Spp.mk ?_ ?_))
     refine again (k+1,R') ⟨hk16,hl',fun j h1 hj=>?_⟩ (by first|omega|(dsimp only;omega)) (ai rfl (ai rfl (ai rfl (ai (QQ (by first|omega|(dsimp only;omega))) trivial)))) (ai rfl (ai rfl trivial)) (QGQ ..)
     rw[hR',QGI allT _ _ (by omega) (fun b hb=>(hbr b hb).1),hus hq]
     by_cases hm:((j:Nat):Int)∈Jv x
     ·rw [if_pos hm,decide_eq_true hm,W5];rfl
     ·rw [if_neg hm,decide_eq_false hm,qi]
      exact hR j h1 hj
   ·rw [decide_eq_false hq]at hT
    (repeat' ((conv=>whnf);first|refine cEk hx ?_|refine cEk hT ?_|refine QB ?_|intro x hx hu|intro h|refine Spp.mk ?_ ?_))
    exact again (k+1,R) ⟨hk16,hl,hsame (.inl hq)⟩ (by first|omega|(dsimp only;omega)) (ai rfl (ai rfl (ai rfl (ai (QQ (by first|omega|(dsimp only;omega))) trivial)))) (ai rfl (ai rfl trivial)) (QGQ ..)
  ·(repeat' ((conv=>whnf);first|refine cEk hx ?_|refine cEk hT ?_|refine QB ?_|intro x hx hu|intro h|refine Spp.mk ?_ ?_))
   all_goals first|(exfalso;omega)|skip
   exact again (k+1,R) ⟨hk16,hl,hsame (.inr hk1)⟩ (by first|omega|(dsimp only;omega)) (ai rfl (ai rfl (ai rfl (ai (QQ (by first|omega|(dsimp only;omega))) trivial)))) (ai rfl (ai rfl trivial)) (QGQ ..)
 ·have h16:k=16:=by omega
  rw[h16]at hR
  have hfin:=QSy hl hR
  have htl:0<R.length:=by omega
  have hl0:(R.set 0 true).length=25:=by rw[vo];exact hl
  (repeat' ((conv=>whnf);first|((with_reducible refine ZC ?_);refine AtA.eq (QUY (R:=R.set 0 true) (stR (b:=true) htl (by with_unfolding_all exact rfl) (by with_unfolding_all exact rfl)) hl0 rfl rfl) ?_)|refine QB ?_|intro x hx hu|intro h|refine Spp.mk ?_ ?_))
  conv=>whnf
  generalize hv:ldA _ 0 _=v
  have hv':v= .dg 25 ((R.set 0 true).map D.bl):=by
   rw[←hv]
   refine(congrArg _ (show _=((R.set 0 true).map D.bl).map AV.d by show []++_++[]=_;rw[xg,xf])).trans (QPO hl0 rfl rfl)
  rw[hv']
  show AV.dg 25 ((R.set 0 true).map D.bl)=_
  rw[hfin]
theorem QSz(l:List Int)(n:Nat):(frV l n).isP=true:=by
 unfold frV
 split<;>rfl
def rbA(E:D)(J:List Bool)(n:Nat)(i:Nat)(l:List Nat):S:=⟨[(0,.d E),(1,.d (.it .i64 (n:Nat))),(6,.ts 1 (vN l) 1),(7,.ptr 2 0),(8,.d (.it .i64 (i:Nat)))],[(1,.tail 3 true),(2,.cells 25 ((J.map D.bl).map .d))],3⟩
theorem QJB(E:D)(J:List Bool)(n:Nat)(i:Nat)(l:List Nat):(rbA E J n i l).ok=true:=by
 unfold rbA
 simp only[S.ok,y3,xv,Ob.lt,Xd];rfl
theorem QPc(m:List (List UInt8))(hm:Zx m)(n:Nat)(hn:n≤100):FnC Tryz.prog 83 [.d (Q1 m),.d (.it .i64 (n:Nat))] (frV (frB (imS m) n) n):=by
 have hu:=QNX m hm
 have hJ:(uD (imS m)).length=25:=by unfold uD;simp
 have hg:=QP9 (QRE (imS m)) n
 have hs:=fun{i:Nat}=> @QBe (fun j=>(uD (imS m)).getD j false) 1 i
 have ht:=fun{i:Nat}=> @QDM (fun j=>(uD (imS m)).getD j false) 1 i 25 n
 have hfl:=QGE (fun j=>(uD (imS m)).getD j false) 1
 have h0:FL (fun j=>(uD (imS m)).getD j false) 1 1=[]:=rfl
 generalize FL (fun j=>(uD (imS m)).getD j false) 1=F at*
 generalize uD (imS m)=J at*
 have hvl:=QM9 (frB (imS m) n)
 generalize frB (imS m) n=L at*
 generalize Q1 m=E at*
 refine QL i83 ?_ (QSz _ _)
 (repeat' ((conv=>whnf);first|refine cEk hu ?_|refine QB ?_|intro x hx hu|intro h|refine Spp.mk ?_ ?_))
 conv=>whnf
 refine QU QA (fun x:Nat×List Nat=>1≤x.1∧x.1≤25∧x.2=(F x.1).take n) (fun|(i,l)=>rbA E J n i l) (fun x=>25-x.1) (1,[]) ⟨zt _,by decide,by rw[h0,jp]⟩ ⟨(ai rfl (ai rfl (ai rfl (ai rfl (ai rfl trivial))))),ai rfl (ai (Qi rfl (by show []++_++[]=_;rw[xg,xf])) trivial),QJB ..⟩ ?_
 intro⟨i,l⟩ hi0
 have hi1:=hi0.1
 have hi2:=hi0.2.1
 have hil:=hi0.2.2
 dsimp only at hi1 hi2 hil
 have hll:(vN l).length=l.length:=zb ..
 have hfi:=hfl i
 have hl2:l.length≤n∧l.length≤(F i).length:=by rw[hil,z1];omega
 have hst:n≤l.length∨¬i<25→vN l=vI L:=fun h=>by
  rw[←hg]
  rcases h with h|h
  ·rw [hil,ht hi1 hi2 (by omega)]
  ·rw [hil,show i=25 by omega]
 have hgo:l.length<n→l=F i:=fun h=>by
  rw[hil,z1]at h
  rw[hil,yb (by omega)]
 have hsu:=hs hi1
 have hend:vN l=vI L→l.length=L.length:=fun h=>by
  have:=congrArg List.length h
  rwa [hll,hvl]at this
 by_cases hia:i<25
 ·obtain ⟨r,hr⟩:=Qy (l:=J) (k:=i) (by omega)
  have hrd:J.getD i false=r:=by rw[zk,hr];rfl
  rw[hrd]at hsu
  by_cases hln:l.length<n
  ·have hlF:=hgo hln
   cases r with
   |true=>
    rw[if_pos rfl,xf]at hsu
    (repeat' ((conv=>whnf);first|((with_reducible refine ZC ?_);refine AtA.eq (ldR hr rfl rfl) ?_)|refine QB ?_|intro x hx hu|intro h|refine Spp.mk ?_ ?_))
    all_goals first|(exfalso;omega)|skip
    refine again (i+1,l) ⟨by omega,hia,by rw[hsu,←hlF,yb (by omega)]⟩ (by first|omega|(dsimp only;omega)) (ai rfl (ai rfl (ai rfl (ai rfl (ai (QQ (by omega)) trivial))))) (ai rfl (ai rfl trivial)) (QJB ..)
   |false=>
    rw[if_neg (by simp)]at hsu
    (repeat' ((conv=>whnf);first|((with_reducible refine ZC ?_);refine AtA.eq (ldR hr rfl rfl) ?_)|refine QB ?_|intro x hx hu|intro h|refine Spp.mk ?_ ?_))
    all_goals first|(exfalso;omega)|skip
    refine again (i+1,l++[i]) ⟨by omega,hia,by rw[hsu,←hlF,yb (by rw[zj,xd];omega)]⟩ (by first|omega|(dsimp only;omega)) (ai rfl (ai rfl (ai (QAr ?_) (ai rfl (ai (QQ (by omega)) trivial))))) (ai rfl (ai (Qi rfl (QGD ..)) trivial)) (QJB ..)
    show _=vN (l++[i])
    unfold vN
    rw[yc];rfl
  ·have hth:=hst (.inl (by omega))
   have hq:=hend hth
   by_cases hc:L.length=n
   ·have hV:frV L n= .tup [.d (.fs 1 (vI L)),.d (.bl true)]:=if_pos hc
    (repeat' ((conv=>whnf);first|refine QB ?_|intro x hx hu|intro h|refine Spp.mk ?_ ?_))
    all_goals first|(exfalso;omega)|skip
    all_goals exact(congrArg (fun q=>AV.tup [.d (.fs 1 q),.d (.bl true)]) hth).trans hV.symm
   ·have hV:frV L n= .tup [.d (.fs 1 []),.d (.bl false)]:=if_neg hc
    (repeat' ((conv=>whnf);first|refine QB ?_|intro x hx hu|intro h|refine Spp.mk ?_ ?_))
    all_goals first|(exfalso;omega)|skip
    all_goals exact hV.symm
 ·have hth:=hst (.inr hia)
  have hq:=hend hth
  by_cases hc:L.length=n
  ·have hV:frV L n= .tup [.d (.fs 1 (vI L)),.d (.bl true)]:=if_pos hc
   (repeat' ((conv=>whnf);first|refine QB ?_|intro x hx hu|intro h|refine Spp.mk ?_ ?_))
   all_goals first|(exfalso;omega)|skip
   all_goals exact(congrArg (fun q=>AV.tup [.d (.fs 1 q),.d (.bl true)]) hth).trans hV.symm
  ·have hV:frV L n= .tup [.d (.fs 1 []),.d (.bl false)]:=if_neg hc
   (repeat' ((conv=>whnf);first|refine QB ?_|intro x hx hu|intro h|refine Spp.mk ?_ ?_))
   all_goals first|(exfalso;omega)|skip
   all_goals exact hV.symm
end Go.Proofs.YtikgcbioagmkkaaGreatDoor
