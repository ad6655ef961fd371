/- Contracts of the functions that the law reaches, and the law. Conditions: none. -/
import Derived.Test.YtikgcbioagmkkaaGreatDoorFKD
import Derived.Test.YtikgcbioagmkkaaGreatDoorFSE
import Derived.Test.YtikgcbioagmkkaaGreatDoorFSD
import Derived.Test.YtikgcbioagmkkaaGreatDoorFKA
import Derived.Test.YtikgcbioagmkkaaGreatDoorFKB
set_option maxRecDepth 100000
set_option linter.all false
set_option maxHeartbeats 16000000
namespace Go.Proofs.YtikgcbioagmkkaaGreatDoor
open Go.Sy
def usK(f:Int→List UInt8)(k:Nat)(b:Int):Bool:=(List.range k).any fun n:Nat=>decide (JH f (n:Nat))&&decide (b∈QCe (Qy f (n:Nat)))
theorem QOg{f:Int→List UInt8}{k:Nat}(h:¬JH f (k:Nat))(b:Int):usK f (k+1) b=usK f k b:=by
 unfold usK
 rw[wn,jf]
 simp[h]
theorem QM7{f:Int→List UInt8}{k:Nat}(h:JH f (k:Nat))(b:Int):usK f (k+1) b=(usK f k b||decide (b∈QCe (Qy f (k:Nat)))):=by
 unfold usK
 rw[wn,jf]
 simp[h]
def mkS(v:Int→Bool)(R:List Bool)(l:List Int):List Bool:=l.foldl (fun R b=>R.set b.toNat (v b)) R
theorem QIa(v:Int→Bool):∀(l:List Int) (R:List Bool),(mkS v R l).length=R.length
 |[],R=>rfl
 |b::t,R=>by
  show(mkS v (R.set b.toNat (v b)) t).length=_
  rw[QIa v t,wo]
theorem QIb(v:Int→Bool){j:Nat}:∀(l:List Int) (R:List Bool),j<R.length→(∀b∈l,0≤b)→(mkS v R l).getD j false=if(j:Int)∈l then v (j:Nat)else R.getD j false
 |[],R,_,_=>by rw[if_neg (by simp)];rfl
 |b::t,R,hj,hb=>by
  have hb0:=hb b zo
  show(mkS v (R.set b.toNat (v b)) t).getD j false=_
  rw[QIb v t _ (by rw[wo];exact hj) fun x hx=>hb x (zk _ hx)]
  by_cases ht:(j:Int)∈t
  ·rw [if_pos ht,if_pos (zk _ ht)]
  ·rw [if_neg ht,z1,kr]
   by_cases hbj:b.toNat=j
   ·rw [if_pos hbj,if_pos (by omega),if_pos (by rw[show(j:Int)=b by omega];exact zo),show(j:Int)=b by omega];rfl
   ·rw [if_neg hbj,if_neg (by rw[zi];rintro(h|h);omega;exact ht h),z1]
theorem QLP(v:Int→Bool)(R:List Bool)(l:List Int)(b:Int):mkS v R (l++[b])=(mkS v R l).set b.toNat (v b):=by
 unfold mkS
 rw[ua];rfl
theorem QLQ{x:Ino}(h:RI x):∀b∈QCe x,0≤b∧b<25:=by
 intro b hb
 unfold QCe at hb
 simp only[zi,y6,or_false]at hb
 rcases h with h|h
 ·rcases hb with rfl|rfl|rfl|rfl<;>omega
 ·rcases hb with rfl|rfl|rfl|rfl<;>omega
theorem QLR{x:Ino}:∀i,i<4→(QCe x)[i]? =some (Xu x i)
 |0,_=>rfl
 |1,_=>rfl
 |2,_=>rfl
 |3,_=>rfl
 |i+4,h=>by omega
def QDt(b:Int):Bool:=decide (b>0)
def uO(f:Int→List UInt8):List Bool:=(List.range 25).map fun b:Nat=>decide (0<b)&&QHG f (b:Nat)
theorem QQA(f:Int→List UInt8)(j:Nat)(h:j<(uO f).length):(uO f)[j]=(decide (0<j)&&QHG f (j:Nat)):=by simp only[uO,zx,xy]
theorem QQB{f:Int→List UInt8}{R:List Bool}(hl:R.length=25)(h:∀j:Nat,j<25→R.getD j false=(decide (0<j)&&usK f 16 (j:Nat))):R=uO f:=by
 refine ud (by rw[hl];unfold uO;simp) fun j h1 h2=>?_
 rw[QQA]
 rw[hl]at h1
 have:=h j h1
 rw[z1,zm (by omega)]at this
 exact this
def bkS(E:D)(J R:List Bool)(k:Nat):S:=⟨[(0,.d E),(2,.ptr 0 0),(3,.ptr 1 0),(9,.dg 16 (J.map D.bl)),(10,.d (.it .i64 (k:Nat)))],[(0,.cells 25 (((List.replicate 25 false).map D.bl).map .d)),(1,.cells 25 ((R.map D.bl).map .d))],2⟩
theorem QHX(E:D)(J R:List Bool)(k:Nat):(bkS E J R k).ok=true:=by
 unfold bkS
 simp only[S.ok,xe,xv,Ob.lt,YA];rfl
def QOh(E:D)(J R:List Bool)(k:Nat)(B:List D)(i:Nat):S:=⟨[(0,.d E),(2,.ptr 0 0),(3,.ptr 1 0),(9,.dg 16 (J.map D.bl)),(10,.d (.it .i64 (k:Nat))),(19,.dg 4 B),(20,.d (.it .i64 (i:Nat)))],[(0,.cells 25 (((List.replicate 25 false).map D.bl).map .d)),(1,.cells 25 ((R.map D.bl).map .d))],2⟩
theorem QIc(E:D)(J R:List Bool)(k:Nat)(B:List D)(i:Nat):(QOh E J R k B i).ok=true:=by
 unfold QOh
 simp only[S.ok,xe,xv,Ob.lt,YA];rfl
theorem QJo(d:Option Dk)(hd:XI d):FnC Tryz.prog 199 [.d (QS d)] (.dg 25 ((uO (rdS d)).map D.bl)):=by
 have hi:=QDn d hd
 have hJ:=QK2 (rdS d)
 have hJl:=QCl (rdS d) 24
 have he:=fun n=>Xe d hd n
 have hRI:=fun n=>QFm (rdS d) n
 generalize iR (rdS d) 24=J at*
 generalize QS d=E at*
 refine QL QRC ?_
 (repeat' ((conv=>whnf);first|refine cEk hi ?_|refine CallE.inl ?_|refine QB ?_|intro x hx hu|intro h|refine Spp.mk ?_ ?_))
 conv=>whnf
 refine Zb QA (fun x:Nat×List Bool=>x.1≤16∧x.2.length=25∧∀j:Nat,j<25→x.2.getD j false=(decide (0<j)&&usK (rdS d) x.1 (j:Nat))) (fun|(k,R)=>bkS E J R k) (fun x=>16-x.1) (0,List.replicate 25 false) ⟨yf _,rfl,fun j hj=>by rw[z1,List.getElem?_replicate,if_pos hj];show false=(_&&false);rw[Bool.and_false]⟩ ⟨(ai rfl (ai rfl (ai rfl (ai rfl (ai rfl trivial))))),ai (cells_eq rfl (by with_unfolding_all exact rfl)) (ai (cells_eq rfl (by with_unfolding_all exact rfl)) trivial),QHX ..⟩ ?_
 intro⟨k,R⟩ hk0
 have hk:=hk0.1
 have hl:=hk0.2.1
 have hR:=hk0.2.2
 dsimp only at hk hl hR
 by_cases hk16:k<16
 ·obtain ⟨r,hr⟩:=ZD (l:=J) (k:=k) (by omega)
  have hrt:r=decide (JH (rdS d) (k:Nat)):=by
   have:=hr
   rw[hJ,yy,jl hk16]at this
   exact(za this).symm
  cases r with
  |false=>
   have hno:¬JH (rdS d) (k:Nat):=of_decide_eq_false hrt.symm
   (repeat' ((conv=>whnf);first|((with_reducible refine ZL ?_);refine AtA.eq (QP2 hr rfl rfl) ?_)|refine QB ?_|intro x hx hu|intro h|refine Spp.mk ?_ ?_))
   refine again (k+1,R) ⟨hk16,hl,fun j hj=>by rw[QOg hno];exact hR j hj⟩ (by first|omega|(dsimp only;omega)) (ai rfl (ai rfl (ai rfl (ai rfl (ai (QW (by first|omega|(dsimp only;omega))) trivial))))) (ai rfl (ai rfl trivial)) (QHX ..)
  |true=>
   have hyes:JH (rdS d) (k:Nat):=of_decide_eq_true hrt.symm
   have hx:=he (k:Nat)
   have hxR:=hRI (k:Nat)
   have hus:=fun b=>QM7 hyes b
   generalize Qy (rdS d) (k:Nat)=x at*
   have hbr:=QLQ hxR
   have hbg:= @QLR x
   have hxe:Xc x=[.it .i64 x.k,.it .i64 x.z,.it .i64 x.b0,.it .i64 x.b1,.it .i64 x.b2,.it .i64 x.b3]:=rfl
   rw[hxe]at hx
   (repeat' ((conv=>whnf);first|((with_reducible refine ZL ?_);refine AtA.eq (QP2 hr rfl rfl) ?_)|refine cEk hx ?_|refine QB ?_|intro x hx hu|intro h|refine Spp.mk ?_ ?_))
   conv=>whnf
   refine Zb QA (fun y:Nat×List Bool=>y.1≤4∧y.2=mkS QDt R ((QCe x).take y.1)) (fun|(i,R')=>QOh E J R' k [.it .i64 x.b0,.it .i64 x.b1,.it .i64 x.b2,.it .i64 x.b3] i) (fun y=>4-y.1) (0,R) ⟨yf _,rfl⟩ ⟨(ai rfl (ai rfl (ai rfl (ai rfl (ai rfl (ai rfl (ai rfl trivial))))))),(ai rfl (ai rfl trivial)),QIc ..⟩ ?_
   intro⟨i,R'⟩ hi0
   have hi4:=hi0.1
   have hR':=hi0.2
   dsimp only at hi4 hR'
   have hl':R'.length=25:=by rw[hR',QIa];exact hl
   by_cases hi44:i<4
   ·have hb:=hbg i hi44
    have hbr':=hbr _ (yi hb)
    have hst:R'.set (Xu x i).toNat (QDt (Xu x i))=mkS QDt R ((QCe x).take (i+1)):=by rw[Q3 hb,QLP,←hR']
    have htl:(Xu x i).toNat<R'.length:=by omega
    have hi3:i=0∨i=1∨i=2∨i=3:=by omega
    rcases hi3 with rfl|rfl|rfl|rfl
    all_goals (
     replace hst:R'.set _ _=_:=hst
     simp only[Xu]at hst hbr' htl
     (repeat' ((conv=>whnf);first|refine QB ?_|intro x hx hu|intro h|refine Spp.mk ?_ ?_))
     refine again (_+1,R'.set _ (QDt _)) ⟨by omega,hst⟩ (by first|omega|(dsimp only;omega)) (ai rfl (ai rfl (ai rfl (ai rfl (ai rfl (ai rfl (ai (QW (by first|omega|(dsimp only;omega))) trivial))))))) (ai rfl (ai (cells_eq rfl (stR htl rfl rfl)) trivial)) (QIc ..))
   ·have hi:i=4:=by omega
    have hall:(QCe x).take i=QCe x:=by rw[hi];rfl
    rw[hall]at hR'
    (repeat' ((conv=>whnf);first|refine QB ?_|intro x hx hu|intro h|refine Spp.mk ?_ ?_))
    refine again (k+1,R') ⟨hk16,hl',fun j hj=>?_⟩ (by first|omega|(dsimp only;omega)) (ai rfl (ai rfl (ai rfl (ai rfl (ai (QW (by first|omega|(dsimp only;omega))) trivial))))) (ai rfl (ai rfl trivial)) (QHX ..)
    rw[hR',QIb QDt _ _ (by omega) (fun b hb=>(hbr b hb).1),hus]
    by_cases hm:((j:Nat):Int)∈QCe x
    ·rw [if_pos hm,decide_eq_true hm,Bool.or_true,x7]
     unfold QDt
     rw[xw,decide_eq_true_eq,decide_eq_true_eq];omega
    ·rw [if_neg hm,decide_eq_false hm,Bool.or_false]
     exact hR j hj
 ·have h16:k=16:=by omega
  rw[h16]at hR
  have hfin:=QQB hl hR
  (repeat' ((conv=>whnf);first|((with_reducible refine ZL ?_);refine AtA.eq (QP3 hl rfl rfl) ?_)|refine QB ?_|intro x hx hu|intro h|refine Spp.mk ?_ ?_))
  conv=>whnf
  generalize hv:ldA _ 0 _=v
  have hv':v= .dg 25 (R.map D.bl):=by
   rw[←hv]
   refine(congrArg _ (show _=(R.map D.bl).map AV.d by show []++_++[]=_;rw[y3,y7])).trans (QP3 hl rfl rfl)
  rw[hv']
  show AV.dg 25 (R.map D.bl)=_
  rw[hfin]
theorem QQC{f:Int→List UInt8}{mk:Nat→Bool}(h:∀j:Nat,1≤j→j<25→mk j=QHG f (j:Nat)):(FL mk 1 25).map (fun i:Nat=>(i:Int))=frA f:=by
 unfold FL frA
 rw[List.range'_eq_map_range,List.filter_map,uo]
 have e:(List.range 24).filter ((fun j=> !(mk j))∘fun x=>1+x)=(List.range 24).filter fun i:Nat=> !(QHG f ((i+1:Nat):Int)):=by
  refine List.filter_congr fun i hi=>?_
  have h24:=xd.1 hi
  show(!(mk (1+i)))=_
  rw[h (1+i) (by omega) (by omega),ji]
 show List.map _ ((List.range (25-1)).filter _)=_
 rw[show 25-1=24 from rfl,e]
 refine uh fun i _=>?_
 show((1+i:Nat):Int)=((i+1:Nat):Int)
 rw[ji]
theorem QQD(l:List Nat):vN l=vI (l.map fun i:Nat=>(i:Int)):=by
 unfold vN vI
 rw[uo];rfl
theorem QQE{f:Int→List UInt8}{mk:Nat→Bool}(h:∀j:Nat,1≤j→j<25→mk j=QHG f (j:Nat))(n:Nat):vN ((FL mk 1 25).take n)=vI (frB f n):=by
 rw[QQD,vz,QQC h];rfl
theorem QOi(f:Int→List UInt8)(j:Nat)(h1:1≤j)(h2:j<25):(uO f).getD j false=QHG f (j:Nat):=by
 unfold uO
 rw[z1,yy,jl h2]
 show(decide (0<j)&&_)=_
 rw[decide_eq_true (by omega),w9]
theorem QNn(n:Nat)(J:List Bool):(AV.dg n (J.map D.bl)).flatP=true:=by
 show(J.map D.bl).all D.flat=true
 rw[zb]
 intro x hx
 obtain⟨b,_,rfl⟩:=yb.1 hx
 rfl
def frV(l:List Int)(n:Nat):AV:=if l.length=n then .tup [.d (.fs 1 (vI l)),.d (.bl true)]else .tup [.d (.fs 1 []),.d (.bl false)]
theorem QOj(l:List Int):(vI l).length=l.length:=ze ..
theorem QId{b:Bool}{bad:List Int}{d:Dk}{N:Nat}(h:Fd bad d N)(n:Nat)(hn:n≤100):FnH Tryz.prog 158 [.ptr 0 0,.d (.it .i64 (n:Nat))] (Z6 b bad d) 5 [0] (frV (frB (rdS (some d)) n) n) (Z6 b bad d) 5:=by
 have hi:=QJo (some d) h.ok
 have hul:(uO (rdS (some d))).length=25:=by unfold uO;simp
 have hF:=QJc (uO (rdS (some d))) hul 1 25 n (by decide) (by omega) (by decide)
 rw[QQE (QOi _) n]at hF
 generalize uO (rdS (some d))=J at*
 have hl:=QOj (frB (rdS (some d)) n)
 unfold frV
 generalize frB (rdS (some d)) n=l at*
 replace hF:FnH Tryz.prog 196 [.d (.it .i64 1),.d (.it .i64 25),.d (.it .i64 (n:Nat)),.fn (.func 200) [] [.ptr 0 0]] [(0,.cells 25 ((J.map D.bl).map .d))] 1 [0] (.d (.fs 1 (vI l))) [(0,.cells 25 ((J.map D.bl).map .d))] 1:=hF
 by_cases hc:l.length=n
 ·rw [if_pos hc]
  refine QR QPX fun T=>?_
  (repeat' ((conv=>whnf);first|refine CallE.inl ?_|refine CallI.byR (QAA.mkF ⟨_,_,ArF.fr _ _ _ _ (frD (by with_unfolding_all exact rfl) (by with_unfolding_all exact rfl)) ArF.nil,hi,QNn _ _,?_⟩)|refine CallI.byH hF [8] (by with_unfolding_all exact rfl) ⟨rfl,by decide,by with_unfolding_all exact rfl⟩ (ai (cells_eq rfl (by show []++_++[]=_;rw[y3,y7];exact(QEd _ _).symm)) trivial) rfl rfl ?_|refine QB ?_|intro x hx hu|intro h|refine Spp.mk ?_ ?_))
  all_goals first|(exfalso;omega)|skip
  exact QJ
 ·rw [if_neg hc]
  refine QR QPX fun T=>?_
  (repeat' ((conv=>whnf);first|refine CallE.inl ?_|refine CallI.byR (QAA.mkF ⟨_,_,ArF.fr _ _ _ _ (frD (by with_unfolding_all exact rfl) (by with_unfolding_all exact rfl)) ArF.nil,hi,QNn _ _,?_⟩)|refine CallI.byH hF [8] (by with_unfolding_all exact rfl) ⟨rfl,by decide,by with_unfolding_all exact rfl⟩ (ai (cells_eq rfl (by show []++_++[]=_;rw[y3,y7];exact(QEd _ _).symm)) trivial) rfl rfl ?_|refine QB ?_|intro x hx hu|intro h|refine Spp.mk ?_ ?_))
  all_goals first|(exfalso;omega)|skip
  refine⟨⟨[(4,.d (.fs 1 [])),(5,.d (.bl false))],Z6 b bad d++Qn 5 [0] T,30⟩,Wk.vwL (ai (Vw.ts' rfl) (ai (Vw.eq rfl) trivial)) (ai (VwO.same _) (ai (VwO.same _) (ai (VwO.same _) (ai (VwO.same _) (ai (VwO.same _) (ai (VwO.same _) (ai (VwO.same _) trivial))))))) rfl,rfl,(ai rfl (ai rfl (ai rfl (ai rfl (ai rfl trivial))))),(ai rfl (ai rfl trivial))⟩
theorem QCo{s c:List UInt8}{a:Nat}(h:a+c.length≤s.length):((QF s).map AV.d).take a++(QF c).map AV.d++((QF s).map AV.d).drop (a+c.length)=(QF (QDN s a c)).map AV.d:=by
 unfold QDN QF
 simp only[yv,vz,uz]
theorem J7{s:List UInt8}{ty:Ty}{a:List AV}(hx:a=(QF s).map AV.d)(h:s.length=32)(ha:ty.kd.agg=true)(hz:ty.size=32):ldA ty 0 a= .dg 32 (QF s):=by
 rw[hx]
 unfold ldA
 rw[ha,cond_true,hz,vg,yd (by rw[ze,ZT,h];exact zr _)]
 unfold QCu
 rw[YB]
theorem QF9(c:List UInt8):(QE c).flatten=QF c:=by
 unfold QE QF
 induction c with
 |nil=>rfl
 |cons b t ih=>simp only[wh,wu,ih,qx]
theorem QOk{s c:List UInt8}{a o q:Nat}{C:List AV}(hC:C=(QF s).map AV.d)(ho:o=a)(hq:q=a+c.length)(h:a+c.length≤s.length):(QF (QDN s a c)).map AV.d=C.take o++(QE c).flatten.map AV.d++C.drop q:=by
 rw[hC,ho,hq,QF9,QCo h]
theorem letC_id{e:List AV}{K:List AV→Prop}(h:Z8 e K):Z8 e K:=h
theorem QM8(s:List UInt8)(hs:s.length=32)(a:Nat)(c:List UInt8)(h:a+c.length≤32):FnC Tryz.prog 159 [.dg 32 (QF s),.d (.it .i64 (a:Nat)),.d (.fs 1 (QE c))] (.tup [.dg 32 (QF (QDN s a c)),.d (.bl true)]):=by
 have hl:=QKr (s:=s) (a:=a) (c:=c) (by omega)
 have hpc:=QCo (s:=s) (a:=a) (c:=c) (by omega)
 have hbl:(QE c).length=c.length:=ze ..
 have hf:=QES (a:Nat) ((QE c).length:Nat)
 rw[decide_eq_true (by omega)]at hf
 obtain⟨g,hg⟩:=Xy hs
 subst hg
 refine QL QPY ?_
 (repeat' ((conv=>whnf);first|refine cEk hf ?_|((with_reducible refine letC_id ?_);refine Z8.mk ((QF (QDN (ZN g) a c)).map AV.d) (QOk (by with_unfolding_all exact rfl) (by show 0+((a:Nat):Int).toNat*1=a;omega) (by show 0+((a:Nat):Int).toNat*1+(QE c).length*1=a+c.length;omega) h) ?_)|((with_reducible refine ZL ?_);refine AtA.eq (J7 rfl (hl.trans hs) rfl rfl) ?_)|refine QB ?_|intro x hx hu|intro h|refine Spp.mk ?_ ?_))
 conv=>whnf
 generalize hv:ldA _ 0 _=v
 have hv':v= .dg 32 (QF (QDN (ZN g) a c)):=by
  rw[←hv]
  refine J7 ?_ (hl.trans hs) rfl rfl
  show []++_++[]=_
  rw[y3,y7]
 rw[hv'];rfl
theorem QM9{f:Int→List UInt8}{j:Int}(h:j∈frA f):1≤j∧j≤24:=by
 unfold frA at h
 obtain⟨i,hi,rfl⟩:=yb.1 h
 have:=xd.1 (uj.1 hi).1
 omega
theorem QEk{f:Int→List UInt8}{n:Nat}{j:Int}(h:j∈frB f n):1≤j∧j≤24:=QM9 (xa h)
theorem QNA{fr:List Int}(h:∀j∈fr,1≤j∧j≤24)(i:Nat)(e:Int)(he:0≤e∧e≤24):0≤fr.getD i e∧fr.getD i e≤24:=by
 rw[z1]
 by_cases hi:i<fr.length
 ·rw [zm hi]
  have:=h _ (zq hi)
  exact⟨by show 0≤fr[i];omega,by show fr[i]≤24;omega⟩
 ·rw [wx (by omega)];exact he
theorem QCM{x:Ino}{had:Nat}{fr:List Int}(h:∀j∈fr,1≤j∧j≤24)(i:Nat)(he:0≤Xu x i∧Xu x i≤24):0≤QHH x had fr i∧QHH x had fr i≤24:=by
 unfold QHH
 split
 ·exact QNA h _ _ he
 ·exact he
theorem QAo{x:Ino}(h:RI x)(i:Nat):0≤Xu x i∧Xu x i≤24:=by
 have:(0≤x.b0∧x.b0≤24)∧(0≤x.b1∧x.b1≤24)∧(0≤x.b2∧x.b2≤24)∧(0≤x.b3∧x.b3≤24):=by
  rcases h with h|h
  ·omega
  ·omega
 obtain⟨h0,h1,h2,h3⟩:=this
 match i with
 |0=>exact h0
 |1=>exact h1
 |2=>exact h2
 |i+3=>exact h3
theorem QIe{x:Ino}(hx:RI x){had:Nat}{fr:List Int}(h:∀j∈fr,1≤j∧j≤24)(z:Int)(i:Nat):0≤Xu (JI x z had fr) i∧Xu (JI x z had fr) i≤24:=by
 match i with
 |0=>exact QCM h 0 (QAo hx 0)
 |1=>exact QCM h 1 (QAo hx 1)
 |2=>exact QCM h 2 (QAo hx 2)
 |i+3=>exact QCM h 3 (QAo hx 3)
theorem QJp(c:List UInt8)(i j:Nat):QE ((c.drop i).take j)=((QE c).take (i+j)).drop i:=by
 unfold QE
 rw[vz,uz,←List.take_drop]
theorem QQF{a:Int}{k:Nat}(h0:32*(k:Int)≤a)(h1:a<32*(k:Int)+32)(hk:k≤100):IntKind.i64.wrap (Int.tdiv a 32)=(k:Int):=by
 have e:Int.tdiv a 32=(k:Int):=by
  rw[u4 (by omega)]
  omega
 rw[e,kp _ (by omega)]
theorem QQG{a:Int}{k:Nat}(h0:32*(k:Int)≤a)(h1:a<32*(k:Int)+32):Int.tmod a 32=(((a-32*(k:Int)).toNat:Nat):Int):=by
 rw[jv (by omega)]
 omega
theorem QIf{f:Int→List UInt8}{n:Int}{x y:Ino}{had:Nat}{off:Int}{b:List UInt8}{k:Nat}(hy:∀i,0≤Xu y i∧Xu y i≤24):∀s∈XG f n x y had off b k,QFs s:=by
 intro s hs
 unfold XG at hs
 obtain⟨i,_,rfl⟩:=yb.1 hs
 unfold QMf
 have:=hy i
 exact⟨QAi _ _ _ _,by show(0:Int)≤40+Xu y i;omega,by show 40+Xu y i<(65:Int);omega⟩
theorem QCp{f:Int→List UInt8}{n:Int}{x y:Ino}{had:Nat}{off:Int}{b:List UInt8}{k:Nat}:(XG f n x y had off b k).length≤k:=by
 unfold XG
 rw[ze]
 exact xj (ur _ _) (by rw[y5];exact zr _)
theorem QNo{a b:Nat}(h:b≤4):IntKind.i64.wrap ((a:Int)+(b:Int)-(a:Int))=(b:Int):=by
 rw[show(a:Int)+(b:Int)-(a:Int)=(b:Int) by omega,kp _ (by omega)]
theorem QEl{n q:Nat}{a b:List (List D)}{L:List AV}(hL:L=[.ts n a q])(h:a=b):Ob.cells 1 L=Ob.cells 1 [.ts n b q]:=by rw[hL,h]
theorem QIg{a b:Int}:(if b>a then b else a)=max a b:=by
 split<;>omega
theorem QHY{x:Ino}{had:Nat}{fr:List Int}(h:had+fr.length≤4)(z:Int):
  [AV.d (.it .i64 x.k),.d (.it .i64 z),.d (.it .i64 x.b0),.d (.it .i64 x.b1),.d (.it .i64 x.b2),.d (.it .i64 x.b3)].take (2+had)++(vI fr).flatten.map AV.d++[AV.d (.it .i64 x.k),.d (.it .i64 z),.d (.it .i64 x.b0),.d (.it .i64 x.b1),.d (.it .i64 x.b2),.d (.it .i64 x.b3)].drop (2+had+fr.length)=(Xc (JI x z had fr)).map AV.d:=by
 have c:had=0∨had=1∨had=2∨had=3∨had=4:=by omega
 rcases c with rfl|rfl|rfl|rfl|rfl
 all_goals
  rcases fr with _|⟨a,_|⟨b,_|⟨c,_|⟨d,_|⟨e,fr⟩⟩⟩⟩⟩
  all_goals first|rfl|(exfalso;simp only[yk,xf]at h;omega)
theorem QIh{P:Program}{ti:Nat→Option Ty}{N:Nat}{ops:List Oper}{σ:S}{K:S→Prop}(h:QX P ti N 5 ops σ K):QX P ti N 5 ops σ K:=h
theorem QIi{P:Program}{ti:Nat→Option Ty}{N:Nat}{ops:List Oper}{σ:S}{K:S→Prop}(h:QX P ti N 7 ops σ K):QX P ti N 7 ops σ K:=h
theorem Zu{N:Nat}{σ τ:S}(h:Wk N σ τ):Wk N σ τ:=h
def QQH:Tr:=(.cons 0 (.cons 1 (.cons 2 (.cons 3 (.cons 4 (.cons 5 (.cons 6 (.cons 7 (.cons 8 (.cons 9 .nil .nil) .nil) (.cons 8 (.cons 7 (.cons 9 .nil .nil) .nil) .nil)) (.cons 7 (.cons 6 (.cons 8 (.cons 9 .nil .nil) .nil) .nil) .nil)) .nil) .nil) .nil) .nil) .nil) (.cons 1 (.cons 0 (.cons 2 (.cons 3 (.cons 4 (.cons 5 (.cons 6 (.cons 7 (.cons 8 (.cons 9 .nil .nil) .nil) (.cons 8 (.cons 7 (.cons 9 .nil .nil) .nil) .nil)) (.cons 7 (.cons 6 (.cons 8 (.cons 9 .nil .nil) .nil) .nil) .nil)) .nil) .nil) .nil) .nil) (.cons 2 (.cons 0 (.cons 3 (.cons 4 (.cons 5 (.cons 6 (.cons 7 (.cons 8 (.cons 9 .nil .nil) .nil) (.cons 8 (.cons 7 (.cons 9 .nil .nil) .nil) .nil)) (.cons 7 (.cons 6 (.cons 8 (.cons 9 .nil .nil) .nil) .nil) .nil)) .nil) .nil) .nil) (.cons 3 (.cons 0 (.cons 4 (.cons 5 (.cons 6 (.cons 7 (.cons 8 (.cons 9 .nil .nil) .nil) (.cons 8 (.cons 7 (.cons 9 .nil .nil) .nil) .nil)) (.cons 7 (.cons 6 (.cons 8 (.cons 9 .nil .nil) .nil) .nil) .nil)) .nil) .nil) .nil) .nil)) .nil)) .nil))
def QQI(b:Bool)(bad:List Int)(d:Dk)(T:Nat→Nat)(n:Int)(x:Ino)(off:Int)(c:List UInt8)(had:Nat):S:=⟨[(0,.ptr 5 0),(1,.d (.it .i64 n)),(3,.d (.it .i64 off)),(4,.d (.fs 1 (QE c))),(7,.ptr 9 0),(11,.ptr 10 0),(12,.d (.it .i64 (off+(QE c).length))),(13,.d (.it .i64 (had:Nat)))],(9,.cells 6 [.d (.it .i64 x.k),.d (.it .i64 x.z),.d (.it .i64 x.b0),.d (.it .i64 x.b1),.d (.it .i64 x.b2),.d (.it .i64 x.b3)])::(10,.cells 6 [.d (.it .i64 x.k),.d (.it .i64 x.z),.d (.it .i64 x.b0),.d (.it .i64 x.b1),.d (.it .i64 x.b2),.d (.it .i64 x.b3)])::(QZ b bad d++Qn 6 [0,5] T),12⟩
def QQJ(b:Bool)(bad:List Int)(d:Dk)(T:Nat→Nat)(n:Int)(x:Ino)(off:Int)(c:List UInt8)(had:Nat)(z:Int)(fr:List Int)(ok:Bool):S:=⟨[(0,.ptr 5 0),(1,.d (.it .i64 n)),(3,.d (.it .i64 off)),(4,.d (.fs 1 (QE c))),(7,.ptr 9 0),(11,.ptr 10 0),(12,.d (.it .i64 (off+(QE c).length))),(13,.d (.it .i64 (had:Nat))),(14,.d (.fs 1 (vI fr))),(15,.d (.bl ok))],(9,.cells 6 [.d (.it .i64 x.k),.d (.it .i64 x.z),.d (.it .i64 x.b0),.d (.it .i64 x.b1),.d (.it .i64 x.b2),.d (.it .i64 x.b3)])::(10,.cells 6 [.d (.it .i64 x.k),.d (.it .i64 z),.d (.it .i64 x.b0),.d (.it .i64 x.b1),.d (.it .i64 x.b2),.d (.it .i64 x.b3)])::(QZ b bad d++Qn 6 [0,5] T),12⟩
theorem QOl{x:Ino}{had o q:Nat}{fr:List Int}{C:List AV}{z:Int}(hC:C=[AV.d (.it .i64 x.k),.d (.it .i64 z),.d (.it .i64 x.b0),.d (.it .i64 x.b1),.d (.it .i64 x.b2),.d (.it .i64 x.b3)])(ho:o=2+had)(hq:q=2+had+fr.length)(h:had+fr.length≤4):
  (Xc (JI x z had fr)).map AV.d=C.take o++(vI fr).flatten.map AV.d++C.drop q:=by
 rw[hC,ho,hq,QHY h]
def ptA(b:Bool)(bad:List Int)(d:Dk)(T:Nat→Nat)(n:Int)(x y:Ino)(off:Int)(c:List UInt8)(had:Nat):Nat×Int→S|(k,p)=>⟨[(0,.ptr 5 0),(1,.d (.it .i64 n)),(3,.d (.it .i64 off)),(4,.d (.fs 1 (QE c))),(7,.ptr 9 0),(11,.ptr 10 0),(12,.d (.it .i64 (off+(QE c).length))),(13,.d (.it .i64 (had:Nat))),(16,.ptr 12 0),(17,.d (.it .i64 p))],(9,.cells 6 [.d (.it .i64 x.k),.d (.it .i64 x.z),.d (.it .i64 x.b0),.d (.it .i64 x.b1),.d (.it .i64 x.b2),.d (.it .i64 x.b3)])::(10,.cells 6 ((Xc y).map AV.d))::(12,.cells 1 [.ts 37 ((XG (rdS (some d)) n x y had off c k).map YY) 13])::(13,.tail 243 true)::(QZ b bad d++Qn 6 [0,5] T),14⟩
def ptB(b:Bool)(bad:List Int)(d:Dk)(T:Nat→Nat)(n:Int)(x y:Ino)(off:Int)(c:List UInt8)(had:Nat)(k:Nat)(p q:Int)(L:List Stp)(s:List UInt8):S:=⟨[(0,.ptr 5 0),(1,.d (.it .i64 n)),(3,.d (.it .i64 off)),(4,.d (.fs 1 (QE c))),(7,.ptr 9 0),(11,.ptr 10 0),(12,.d (.it .i64 (off+(QE c).length))),(13,.d (.it .i64 (had:Nat))),(16,.ptr 12 0),(17,.d (.it .i64 p)),(18,.d (.it .i64 (k:Nat))),(19,.d (.it .i64 q)),(20,.ptr 14 0)],(9,.cells 6 [.d (.it .i64 x.k),.d (.it .i64 x.z),.d (.it .i64 x.b0),.d (.it .i64 x.b1),.d (.it .i64 x.b2),.d (.it .i64 x.b3)])::(10,.cells 6 ((Xc y).map AV.d))::(12,.cells 1 [.ts 37 (L.map YY) 13])::(13,.tail 243 true)::(14,.cells 32 ((QF s).map AV.d))::(QZ b bad d++Qn 6 [0,5] T),15⟩
def QBr:Tr:=(.cons 0 (.cons 1 (.cons 2 (.cons 3 (.cons 4 (.cons 5 (.cons 6 (.cons 7 .nil .nil) (.cons 7 (.cons 6 .nil .nil) .nil)) (.cons 6 (.cons 5 (.cons 7 .nil .nil) .nil) .nil)) .nil) .nil) .nil) (.cons 2 (.cons 1 (.cons 3 (.cons 4 (.cons 5 (.cons 6 (.cons 7 .nil .nil) (.cons 7 (.cons 6 .nil .nil) .nil)) (.cons 6 (.cons 5 (.cons 7 .nil .nil) .nil) .nil)) .nil) .nil) .nil) .nil)) (.cons 1 (.cons 0 (.cons 2 (.cons 3 (.cons 4 (.cons 5 (.cons 6 (.cons 7 .nil .nil) (.cons 7 (.cons 6 .nil .nil) .nil)) (.cons 6 (.cons 5 (.cons 7 .nil .nil) .nil) .nil)) .nil) .nil) .nil) (.cons 2 (.cons 0 (.cons 3 (.cons 4 (.cons 5 (.cons 6 (.cons 7 .nil .nil) (.cons 7 (.cons 6 .nil .nil) .nil)) (.cons 6 (.cons 5 (.cons 7 .nil .nil) .nil) .nil)) .nil) .nil) .nil) .nil)) (.cons 2 (.cons 0 (.cons 1 (.cons 3 (.cons 4 (.cons 5 (.cons 6 (.cons 7 .nil .nil) (.cons 7 (.cons 6 .nil .nil) .nil)) (.cons 6 (.cons 5 (.cons 7 .nil .nil) .nil) .nil)) .nil) .nil) .nil) (.cons 1 (.cons 0 (.cons 3 (.cons 4 (.cons 5 (.cons 6 (.cons 7 .nil .nil) (.cons 7 (.cons 6 .nil .nil) .nil)) (.cons 6 (.cons 5 (.cons 7 .nil .nil) .nil) .nil)) .nil) .nil) .nil) .nil)) .nil)))
theorem Ya{P:Program}{ti:Nat→Option Ty}{N:Nat}{ops:List Oper}{σ:S}{K:S→Prop}(h:QX P ti N 19 ops σ K):QX P ti N 19 ops σ K:=h
theorem QQK{off:Int}{len k:Nat}(h0:0≤off)(hk:off/32≤(k:Int))(hlt:atK off len k<off+len):
  off≤atK off len k∧32*(k:Int)≤atK off len k∧atK off len k<32*(k:Int)+32∧atK off len k<atK off len (k+1)∧atK off len (k+1)≤off+len∧atK off len (k+1)≤32*(k:Int)+32∧atK off len (k+1)=min (32*(k:Int)+32) (off+len)∧QEZ off len k=true:=by
 have e1:atK off len k=max off (32*(k:Int)):=by unfold atK at hlt⊢;omega
 have e2:atK off len (k+1)=min (32*(k:Int)+32) (off+len):=by unfold atK;omega
 rw[e1]at hlt⊢
 rw[e2]
 refine⟨by omega,by omega,by omega,by omega,by omega,by omega,rfl,?_⟩
 unfold QEZ
 exact decide_eq_true ⟨by omega,by omega,by omega⟩
theorem QOm{off:Int}{len k:Nat}(h:¬atK off len k<off+len):∀i,k≤i→QEZ off len i=false:=fun i hi=>by
 unfold QEZ atK at*
 exact decide_eq_false (by omega)
theorem QLS{x y:Ino}:Yr [.it .i64 y.k,.it .i64 y.z,.it .i64 y.b0,.it .i64 y.b1,.it .i64 y.b2,.it .i64 y.b3] [.it .i64 x.k,.it .i64 x.z,.it .i64 x.b0,.it .i64 x.b1,.it .i64 x.b2,.it .i64 x.b3]=decide (y=x):=by
 obtain⟨a0,a1,a2,a3,a4,a5⟩:=x
 obtain⟨c0,c1,c2,c3,c4,c5⟩:=y
 rw[xw,decide_eq_true_eq]
 simp[Yr,eqD]
def fvA(T0:Nat)(bad:List Int)(d:Dk)(j:Nat):S:=⟨[(0,.ptr 0 0),(13,.d (.fs 1 (vI bad))),(14,.d (.it .i64 (bad.length:Nat))),(15,.d (.it .i64 (j:Nat)))],[(7,.mp true false [.it .i64 0] (QAf (bad.take j))),(0,.cells 6 [.mp 7,.d (.it .i64 0),.vx 32 4 0 d.safe.length,.ts 36 (d.wait.map Qx) 1,.ts 38 d.log 2,.d (.it .i64 d.ep)]),(1,.tail 49 true),(2,.tail 110 true),(4,.vec 37 32 (d.safe.map QF) false),(5,.frame 6 [(0,.ptr 0 0)]),(6,.tag 0 T0)],8⟩
def QQL(u:Nat)(bad:List Int)(d:Dk):List (Nat×Ob):=[(0,.cells 6 [.mp u,.d (.it .i64 d.nx),.vx 32 4 0 d.safe.length,.ts 36 (d.wait.map Qx) 1,.ts 38 d.log 2,.d (.it .i64 d.ep)]),(1,.tail 49 true),(2,.tail 110 true),(4,.vec 37 32 (d.safe.map QF) false),(u,.mp true false [.it .i64 0] (QAf bad))]
def z0f(d:Dk):Dk:=⟨0,d.safe,d.wait,d.log,d.ep⟩
theorem QLT{b ag:Bool}{tp:List D}{l l':List (List D×D)}(h:l=l'):Ob.mp b ag tp l=Ob.mp b ag tp l':=by rw[h]
theorem QLU(b:Bool)(bad0 bad:List Int)(d:Dk)(hs:d.safe.length≠0)(hl:bad.length≤1000000):FnH Tryz.prog 92 [.ptr 0 0,.d (.fs 1 (vI bad))] (Z6 b bad0 d) 5 [0] (.tup []) (QQL 7 bad (z0f d)) 8:=by
 have hn:FnC Tryz.prog 57 [.d (QS (some d))] (.d (.bl false)):=by
  have:=Jg (some d)
  rw[show QBp (some d)=false from decide_eq_false hs]at this
  exact this
 have hv:(vI bad).length=bad.length:=ze ..
 refine QR i92 fun T=>?_
 (repeat' ((conv=>whnf);first|refine CallE.inl ?_|refine rFk hn ?_|((with_reducible refine Q8 ?_);refine OpX.makeMap false [.it .i64 0] rfl rfl ?_)|refine QB ?_|intro x hx hu|intro h|refine Spp.mk ?_ ?_))
 conv=>whnf
 refine Zb QA (fun j:Nat=>j≤bad.length) (fvA (T 0) bad d) (fun j=>bad.length-j) 0 (yf _) ⟨ai rfl (ai rfl (ai (QW (by rw[hv])) (ai rfl trivial))),(ai rfl (ai rfl (ai rfl (ai rfl (ai rfl (ai rfl (ai rfl trivial))))))),rfl⟩ ?_
 intro j hj
 by_cases hjl:j<bad.length
 ·obtain ⟨x,hx⟩:=ZD hjl
  unfold fvA vI
  unfold vI at hv
  (repeat' ((conv=>whnf);first|((with_reducible refine Q8 ?_);refine OpX.mapUpdate (kx:= .it .i64 x) rfl rfl Tryz.underlying89 Tryz.underlying3 rfl rfl rfl rfl rfl rfl rfl ?_)|refine QB ?_|intro x hx hu|intro h|refine Spp.mk ?_ ?_))
  refine again (j+1) hjl (by first|omega|(dsimp only;omega)) (ai rfl (ai rfl (ai rfl (ai (QW (by omega)) trivial)))) (ai (QLT (by rw[Q3 hx,QDj];rfl)) (ai rfl (ai rfl (ai rfl (ai rfl (ai rfl (ai rfl trivial))))))) rfl
 ·have hje:j=bad.length:=by omega
  (repeat' ((conv=>whnf);first|refine QB ?_|intro x hx hu|intro h|refine Spp.mk ?_ ?_))
  subst hje
  conv=>whnf
  refine⟨_,⟨fun κ g a w hst=>⟨g,hst⟩⟩,rfl,ai rfl (ai rfl (ai rfl (ai rfl (ai (QLT (by rw[wz])) trivial)))),(ai rfl (ai rfl trivial))⟩
abbrev QQM(d:Dk):List (List UInt8):=Qi d.safe d.wait
def dk0(l:List (List UInt8)):Dk:=⟨0,l,[],[],0⟩
def QGA(n0 n1 n2 n3 n4:Nat)(b:Bool)(bad:List Int)(d:Dk):List (Nat×Ob):=[(n0,.cells 6 [.mp n3,.d (.it .i64 d.nx),.vx 32 n4 0 d.safe.length,.ts 36 (d.wait.map Qx) n1,.ts 38 d.log n2,.d (.it .i64 d.ep)]),(n1,.tail 49 true),(n2,.tail 110 true),(n3,.mp b false [.it .i64 0] (QAf bad)),(n4,.vec 37 32 (d.safe.map QF) false)]
theorem QOn{L:List AV}{u n m n1 n2:Nat}(hL:L=[.mp u,.d (.it .i64 0),.vx 32 n 0 m,.ts 36 [] n1,.ts 38 [] n2,.d (.it .i64 0)]){k:Nat}(h:m=k):Ob.cells 6 L=Ob.cells 6 [.mp u,.d (.it .i64 0),.vx 32 n 0 k,.ts 36 [] n1,.ts 38 [] n2,.d (.it .i64 0)]:=by rw[hL,h]
theorem QGB(l:List (List UInt8))(h:1≤l.length∧l.length≤65):FnH Tryz.prog 18 [.d (.fs 32 (l.map QF))] [] 0 [] (.tup [.ptr 7 0,.d (.it .i64 0)]) (QGA 7 9 10 8 6 false [] (dk0 l)) 11:=by
 have hl:(l.map QF).length=l.length:=ze ..
 have hne:(l.map QF).isEmpty=false:=by
  cases l with
  |nil=>simp at h
  |cons=>rfl
 refine QR i18 fun T=>?_
 (repeat' ((conv=>whnf);first|refine CallE.inl ?_|with_reducible refine CallI.inl QA i59 rfl ?_|with_reducible refine CallI.inl QA i60 rfl ?_|with_reducible refine Spl.no hne ?_|((with_reducible refine QFK ?_);first|refine J4.vec (ai rfl ?_)|refine J4.vec ?_)|refine QB ?_|intro x hx hu|intro h|refine Spp.mk ?_ ?_))
 all_goals first|(exfalso;omega)|skip
 conv=>whnf
 refine⟨⟨[(2,.ptr 7 0),(3,.d (.it .i64 0))],QGA 7 9 10 8 6 false [] (dk0 l)++Qn 0 [] T,11⟩,?_,rfl,(ai rfl (ai rfl (ai rfl (ai rfl (ai rfl trivial))))),(ai rfl trivial)⟩
 refine Wk.trans (Wk.nlMp 7 0 6 false [.it .i64 0] (by with_unfolding_all exact rfl) (by with_unfolding_all exact rfl)) ?_
 refine Wk.trans (Wk.nlTs 7 3 6 36 49 (by with_unfolding_all exact rfl) (by with_unfolding_all exact rfl)) ?_
 refine Wk.trans (Wk.nlTs 7 4 6 38 110 (by with_unfolding_all exact rfl) (by with_unfolding_all exact rfl)) ?_
 exact Wk.en ⟨(ai rfl (ai rfl trivial)),ai (by (conv=>whnf);exact QOn (by with_unfolding_all exact rfl) hl) (ai rfl (ai rfl (ai rfl (ai rfl (ai rfl trivial))))),rfl⟩
theorem QLV(l:List (List UInt8))(h:¬(1≤l.length∧l.length≤65)):FnC Tryz.prog 18 [.d (.fs 32 (l.map QF))] (.tup [.d (.ot (.pointer none)),.d (.it .i64 1)]):=by
 have hl:(l.map QF).length=l.length:=ze ..
 refine QL i18 ?_
 (repeat' ((conv=>whnf);first|refine CallE.inl ?_|with_reducible refine CallI.inl QA i59 rfl ?_|refine QB ?_|intro x hx hu|intro h|refine Spp.mk ?_ ?_))
 all_goals first|(exfalso;omega)|skip
 all_goals rfl
def flE(l:List (List UInt8)):List D:=(l.map QF).flatten
def frL(m:List (List UInt8))(i:Nat):List AV:=(flE (m.take i)).map AV.d++List.replicate ((m.length-i)*32) (AV.d (.it .u8 0))
theorem QOo{m:List (List UInt8)}{i n:Nat}:(frL m i).all (AV.lt1 n)=true:=by
 unfold frL
 rw[vu,YA,w9,zb]
 intro x hx
 rw[(List.mem_replicate.1 hx).2];rfl
def QQN(m:List (List UInt8))(i:Nat):S:=⟨[(0,.d (QBH m)),(4,.ptr 3 0),(6,.d (.it .i64 (i:Nat)))],[(3,.cells 6 [.ms 32 2 0 m.length m.length,.nl 36,.d (.it .i64 0),.nl 38,.nl 1,.d (.it .i64 0)]),(2,.cells (m.length*32) (frL m i)),(0,.frame 1 [])],4⟩
theorem frA_ok(m:List (List UInt8))(i:Nat):(QQN m i).ok=true:=by
 unfold QQN
 simp only[S.ok,xe,xv,Ob.lt,QOo];rfl
theorem QHZ{b:Bool}{bad:List Int}{d:Dk}{N:Nat}(h:Fd bad d N)(hm:QAF (YQ (some d))):
  FnH Tryz.prog 20 [.ptr 0 0] (Z6 b bad d) 5 [0] (.tup [.ptr 8 0,.d (.it .i64 0)]) ((8,.cells 1 [.ptr 0 0])::Z6 b bad d) 9:=by
 have hs:=QEa (some d) h.ok
 have hmn:=QCb (some d) h.ok
 rw[decide_eq_true hm]at hmn
 have h0:(QCi (some d)).length≠0:=by have:=h.b.s0;exact this
 have hsl:((QCi (some d)).map QF).length=(QCi (some d)).length:=ze ..
 refine QR i20 fun T=>?_
 (repeat' ((conv=>whnf);first|refine CallE.inl ?_|refine rFk hmn ?_|refine CallI.byRL (ArF.fr _ _ _ _ (frD (by with_unfolding_all exact rfl) (by with_unfolding_all exact rfl)) .nil) hs (fun h0'=>absurd (hsl.symm.trans (congrArg List.length h0')) h0) (fun off cap hpos=>?_)|refine QB ?_|intro x hx hu|intro h|refine Spp.mk ?_ ?_))
 all_goals first|(exfalso;omega)|skip
 exact QJ
theorem QGC(d:Dk):YQ (some d)=QQM d:=by
 have hl:(QQM d).length=d.safe.length:=X4 _ _
 refine ud (by rw[hl];unfold YQ;rw[ze,y5]) fun i h1 h2=>?_
 have e:=QHO d (i:Nat) (by omega)
 rw[List.getElem_of_eq (show YQ (some d)=(List.range d.safe.length).map (fun k:Nat=>rdS (some d) (k:Nat))from rfl),zx,xy,e]
 unfold imS
 rw[kq,z1,zm h2];rfl
end Go.Proofs.YtikgcbioagmkkaaGreatDoor
