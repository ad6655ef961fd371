/- Contracts of the functions that the law reaches, and the law. Conditions: none. -/
import Derived.Test.YtikgcbioagmkkaaGreatDoorFKI
set_option maxRecDepth 100000
set_option linter.all false
set_option maxHeartbeats 16000000
namespace Go.Proofs.YtikgcbioagmkkaaGreatDoor
open Go.Sy
def QLW:Ty:= {kd:= .arr 65 37,size:=2080,bytes:=2080,zero:=List.replicate 2080 (.it .u8 0),cmp:=some (List.replicate 2080 (.it .u8 0)),pl:=[]}
def tiB(t:Nat):Option Ty:=bif Nat.beq t 38 then some QLW else ti t
theorem QLX:Xh Tryz.prog 38=some QLW:=by kernel_rfl
theorem QBP:QM Tryz.prog tiB:=fun t ty h=>by
 unfold tiB at h
 by_cases ht:t=38
 ·subst ht
  rw[←za h];exact QLX
 ·have:Nat.beq t 38=false:=by
   cases hb:Nat.beq t 38 with
   |true=>exact absurd (zh hb) ht
   |false=>rfl
  rw[this]at h
  exact QA t ty h
theorem QLY(b:Bool)(bad:List Int)(d:Dk):FnH Tryz.prog 11 [.ptr 5 0] (QZ b bad d) 6 [0,5] (.ptr 0 0) (QZ b bad d) 6:=by
 refine QR i11 fun T=>?_
 (repeat' ((conv=>whnf);first|refine CallE.inl ?_|with_reducible refine CallI.inl QA i50 rfl ?_|refine QB ?_|intro x hx hu|intro h|refine Spp.mk ?_ ?_))
 all_goals first|(exfalso;omega)|skip
 exact QJ
def QJq(f:Int→List UInt8)(i:Nat):List D:=((List.range i).flatMap fun j:Nat=>QF (f (j:Nat)))++List.replicate ((65-i)*32) (.it .u8 0)
def QAJ(f:Int→List UInt8)(i:Nat):List AV:=(QJq f i).map AV.d
theorem QEm{f:Int→List UInt8}(hf:∀n,(f n).length=32):∀i:Nat,((List.range i).flatMap fun j:Nat=>QF (f (j:Nat))).length=i*32
 |0=>rfl
 |i+1=>by
  rw[wn,jm,zt,QEm hf i]
  simp only[j6,List.flatMap_nil,y7]
  rw[ZT,hf];omega
theorem QQO(f:Int→List UInt8):QLW.zero.map toA=QAJ f 0:=rfl
theorem QNB{f:Int→List UInt8}(hf:∀n,(f n).length=32){i o q:Nat}(hi:i<65)(ho:o=i*32)(hq:q=i*32+32):QAJ f (i+1)=(QAJ f i).take o++(QF (f (i:Nat))).map AV.d++(QAJ f i).drop q:=by
 subst ho hq
 have hl:=QEm hf i
 unfold QAJ QJq
 rw[wn,jm]
 simp only[j6,List.flatMap_nil,y7]
 rw[←vz,←uz,←yv,←yv]
 congr 1
 rw[wy (by omega),yd (by omega),kw,hl,qt (by omega),y3,show i*32+32-i*32=32 by omega,We,show(65-i)*32-32=(65-(i+1))*32 by omega]
theorem QOp{f:Int→List UInt8}(hf:∀n,(f n).length=32){ty:Ty}{i o:Nat}{C:List AV}(hC:C=QAJ f 65)(hi:i<65)(ho:o=i*32)(ha:ty.kd.agg=true)(hz:ty.size=32):ldA ty o C= .dg 32 (QF (f (i:Nat))):=by
 subst ho hC
 have key:((QJq f 65).drop (i*32)).take 32=QF (f (i:Nat)):=by
  unfold QJq
  have e:List.range 65=List.range i++(i::(List.range (64-i)).map (i+1+ ·)):=by
   have h1:List.range (i+(65-i))=List.range i++(List.range (65-i)).map (i+ ·):=List.range_add ..
   rw[show i+(65-i)=65 by omega]at h1
   rw[h1,show 65-i=(64-i)+1 by omega,qs]
   simp only[wh,uo,xg]
   congr 2
   refine uh fun a _=>?_
   simp only[Function.comp];omega
  rw[e,jm,x5,kw,QEm hf i,qt (by rw[QEm hf i];exact zr _),y3,jg,vg,j6,x5,wy (by rw[ZT,hf];exact zr _),yd (by rw[ZT,hf];exact zr _)]
 unfold ldA QAJ
 rw[ha,cond_true,hz,←uz,←vz,key]
 unfold QCu
 rw[YB]
theorem cells_eq{n:Nat}{a b:List AV}(h:a=b):Ob.cells n a=Ob.cells n b:=by rw[h]
theorem QNp{L:List D}{h:AV→AV}(hh:∀x,h (.d x)= .d x):(L.map AV.d).map h=L.map AV.d:=by
 rw[uo]
 exact uh fun x _=>hh x
theorem QNC{l:List Act}(h:QDO l 30=true):l.length≤30∧∀a∈l,QF1 a:=by
 unfold QDO at h
 rw[zf,decide_eq_true_eq,zb]at h
 refine⟨by omega,fun a ha=>?_⟩
 have:=of_decide_eq_true (h.1 a (by rw[yd (by omega)];exact ha))
 exact⟨this.1,this.2.1,this.2.2.1,this.2.2.2⟩
structure NSt where
 i:Nat
 b:Bool
 bad:List Int
 d:Dk
def nA(L:List (List D))(p:List UInt8):NSt→S|⟨i,b,bad,d⟩=>⟨[(1,.d (.fs 6 L)),(2,.d (.st p)),(7,.ptr 6 0),(8,.d (.it .i64 (i:Nat)))],QAm b bad d,7⟩
def nB(p:List UInt8)(b:Bool)(bad:List Int)(d:Dk)(i:Nat):S:=⟨[(2,.d (.st p)),(7,.ptr 6 0),(9,.ptr 1 0),(10,.ptr 13 0),(11,.d (.it .i64 (i:Nat)))],QAm b bad d++[(13,.cells 2080 (QAJ (rdS (some d)) i))],14⟩
theorem QBQ{sl:List (Nat×AV)}{m:List (Nat×Ob)}{nx:Nat}{f:Int→List UInt8}{i:Nat}(h:(⟨sl,m,nx⟩:S).ok=true)(hn:13<nx):(⟨sl,m++[(13,.cells 2080 (QAJ f i))],nx⟩:S).ok=true:=by
 obtain⟨h1,h2⟩:=S.ok_iff.1 h
 refine S.ok_iff.2 ⟨h1,fun q hq=>?_⟩
 rcases ye.1 hq with hq|hq
 ·exact h2 q hq
 ·rw [xm.1 hq]
  refine⟨hn,?_⟩
  show(QAJ f i).all _=true
  exact zb.2 fun v hv=>by
   obtain⟨x,_,rfl⟩:=yb.1 hv
   rfl
def nC(p:List UInt8)(b:Bool)(bad:List Int)(d:Dk)(f:Int→List UInt8)(n:Int):S:=⟨[(2,.d (.st p)),(7,.ptr 6 0),(9,.ptr 1 0),(10,.ptr 13 0),(14,.d (.it .i64 n)),(79,.ptr 6 0),(80,.d (.st p))],QAm b bad d++[(13,.cells 2080 (QAJ f 65))],14⟩
def nD(p:List UInt8)(b:Bool)(bad:List Int)(d:Dk)(f:Int→List UInt8)(n e1:Int):S:=⟨[(2,.d (.st p)),(7,.ptr 6 0),(9,.ptr 1 0),(10,.ptr 13 0),(14,.d (.it .i64 n)),(81,.d (.it .i64 e1)),(82,.ptr 6 0),(83,.d (.st p))],QAm b bad d++[(13,.cells 2080 (QAJ f 65))],14⟩
def nE(b:Bool)(bad:List Int)(d:Dk)(f:Int→List UInt8)(n e1 e2:Int)(i:Nat):S:=⟨[(9,.ptr 1 0),(10,.ptr 13 0),(14,.d (.it .i64 n)),(16,.d (.it .i64 e1)),(17,.d (.it .i64 e2)),(18,.d (.it .i64 (i:Nat)))],QAm b bad d++[(13,.cells 2080 (QAJ f 65))],14⟩
def nF(ws:List Wr)(n e1 e2:Int)(k:Nat):S:=⟨[(14,.d (.it .i64 n)),(16,.d (.it .i64 e1)),(17,.d (.it .i64 e2)),(21,.d (.fs 36 (ws.map Qx))),(22,.d (.it .i64 (k:Nat)))],[],14⟩
theorem QLZ{P:Program}{ti:Nat→Option Ty}{N:Nat}{ops:List Oper}{σ:S}{K:S→Prop}(h:QX P ti N 23 ops σ K):QX P ti N 23 ops σ K:=h
theorem QND{a:AV}{K:AV→Prop}(h:AtA a K):AtA a K:=h
theorem QGD:∀s:List UInt8,Yr (QF s) (QF s)=true
 |[]=>rfl
 |b::t=>by
  have ih:=QGD t
  show(eqD (.it .u8 b.toNat) (.it .u8 b.toNat)&&Yr (QF t) (QF t))=true
  rw[ih,x7]
  simp[eqD]
theorem QLa{e:List AV}{K:List AV→Prop}(h:Z8 e K):Z8 e K:=h
theorem QNE(image:List (List UInt8))(hm:QEV image)(acts:List Act)(p:List UInt8):FnC Tryz.prog 3 [.d (QBH image),.d (.fs 6 (acts.map QBO)),.d (.st p)] (.d (.bl true)):=by
 have hK:=QHV
 have hL:=QLO acts 30
 have hil:(image.map QF).length=image.length:=ze ..
 have hal:(acts.map QBO).length=acts.length:=ze ..
 by_cases c1:image.length>200
 ·refine QL i3 ?_
  (repeat' ((conv=>whnf);first|refine cEk hL ?_|refine cEk hK ?_|refine CallE.inl ?_|refine QB ?_|intro x hx hu|intro h|refine Spp.mk ?_ ?_))
  all_goals first|(exfalso;omega)|rfl
 by_cases c2:QDO acts 30=true
 case neg=>
  rw[show QDO acts 30=false by simpa using c2]at hL
  refine QL i3 ?_
  (repeat' ((conv=>whnf);first|refine cEk hL ?_|refine cEk hK ?_|refine CallE.inl ?_|refine QB ?_|intro x hx hu|intro h|refine Spp.mk ?_ ?_))
  all_goals first|(exfalso;omega)|rfl
 obtain⟨hl30,hlt⟩:=QNC c2
 rw[c2]at hL
 by_cases c3:p.length>100
 ·refine QL i3 ?_
  (repeat' ((conv=>whnf);first|refine cEk hL ?_|refine cEk hK ?_|refine CallE.inl ?_|refine QB ?_|intro x hx hu|intro h|refine Spp.mk ?_ ?_))
  all_goals first|(exfalso;omega)|rfl
 by_cases c4:1≤image.length∧image.length≤65
 case neg=>
  have hF:=QJk image c4
  refine QL i3 ?_
  (repeat' ((conv=>whnf);first|refine cEk hL ?_|refine cEk hK ?_|refine cEk hF ?_|refine CallE.inl ?_|refine QB ?_|intro x hx hu|intro h|refine Spp.mk ?_ ?_))
  all_goals first|(exfalso;omega)|rfl
 by_cases c5:QAF image
 case neg=>
  have hF:=QJl image hm c4 c5
  refine QL i3 ?_
  (repeat' ((conv=>whnf);first|refine cEk hL ?_|refine cEk hK ?_|refine cEk hF ?_|refine CallE.inl ?_|refine QB ?_|intro x hx hu|intro h|refine Spp.mk ?_ ?_))
  all_goals first|(exfalso;omega)|rfl
 have hF:=QF4 image hm c5
 have f0:Fd [] (dk0 image) 0:=Fd.dk0 hm c5.1
 generalize dk0 image=d0 at*
 refine FnC.of QBP i3 rfl ?_
 (repeat' ((conv=>whnf);first|refine cEk hL ?_|refine cEk hK ?_|refine CallE.inl ?_|refine CallI.byH hF [] rfl ⟨rfl,by decide,by with_unfolding_all exact rfl⟩ trivial rfl rfl ?_|refine QB ?_|intro x hx hu|intro h|refine Spp.mk ?_ ?_))
 all_goals first|(exfalso;omega)|skip
 conv=>whnf
 refine Qs QBP (fun s:NSt=>s.i≤acts.length∧Fd s.bad s.d (5*s.i)) (nA (acts.map QBO) p) (fun s=>acts.length-s.i) ⟨0,false,[],d0⟩ ⟨yf _,f0⟩ (Wk.en (⟨(ai rfl (ai rfl (ai rfl (ai rfl trivial)))),(ai rfl (ai rfl (ai rfl (ai rfl (ai rfl (ai rfl trivial)))))),rfl⟩)) ?_
 intro⟨i,b,bad,d⟩ hs
 have hi:=hs.1
 have hfd:=hs.2
 dsimp only at hi hfd
 clear hs hF f0 hK hL
 by_cases hil:i<acts.length
 ·obtain ⟨a,hx⟩:=ZD hil
  have ha:=hlt a (yi hx)
  have hba:=ha.bad
  by_cases h7:a.k=7
  ·have hDo:=QOc (b:=b) hfd a ha h7
   have hf':=hfd.z0f (bad':=a.bad) (by omega)
   obtain⟨k,p1,q,n,bb,ba⟩:=a
   dsimp only at*
   subst h7
   replace hDo:FnH Tryz.prog 10 [.ptr 5 0,.dg 6 [.it .i64 7,.st p1,.st q,.it .i64 n,.fs 1 (QE bb),.fs 1 (vI ba)]] (QZ b bad d) 6 [0,5] (.d (.it .i64 0)) (QZ true ba (z0f d)) 6:=hDo
   (repeat' ((conv=>whnf);first|with_reducible refine ZY hx ?_|refine CallE.inl ?_|refine CallI.h hDo [1,2,3,4,5,6] ?_|refine QB ?_|intro x hx hu|intro h|refine Spp.mk ?_ ?_))
   all_goals first|(exfalso;omega)|skip
   exact⟨⟨i+1,true,ba,z0f d⟩,⟨hil,hf'.mono (by dsimp only;omega) (by dsimp only;omega)⟩,by first|omega|(dsimp only;omega),Wk.en (⟨ai rfl (ai rfl (ai rfl (ai (QW (by omega)) trivial))),(ai rfl (ai rfl (ai rfl (ai rfl (ai rfl (ai rfl trivial)))))),rfl⟩)⟩
  ·have hDo:=QM0 (b:=b) hfd a ha h7
   have hf':=hfd.doR a (by omega)
   generalize doR bad d a=R at*
   obtain⟨k,p1,q,n,bb,ba⟩:=a
   dsimp only at*
   replace hDo:FnH Tryz.prog 10 [.ptr 5 0,.dg 6 [.it .i64 k,.st p1,.st q,.it .i64 n,.fs 1 (QE bb),.fs 1 (vI ba)]] (QZ b bad d) 6 [0,5] (.d (.it .i64 R.2)) (QZ b bad R.1) 6:=hDo
   (repeat' ((conv=>whnf);first|with_reducible refine ZY hx ?_|refine CallE.inl ?_|refine CallI.h hDo [1,2,3,4,5,6] ?_|refine QB ?_|intro x hx hu|intro h|refine Spp.mk ?_ ?_))
   all_goals first|(exfalso;omega)|skip
   exact⟨⟨i+1,b,bad,R.1⟩,⟨hil,hf'⟩,by first|omega|(dsimp only;omega),Wk.en (⟨ai rfl (ai rfl (ai rfl (ai (QW (by omega)) trivial))),(ai rfl (ai rfl (ai rfl (ai rfl (ai rfl (ai rfl trivial)))))),rfl⟩)⟩
 ·have hdk:=QLY b bad d
  have hfd:Fd bad d 150:=hfd.mono (by omega) (by omega)
  clear hlt
  (repeat' ((conv=>whnf);first|refine CallE.inl ?_|refine CallI.h hdk [1,2,3,4,5,6] ?_|refine QB ?_|intro x hx hu|intro h|refine Spp.mk ?_ ?_))
  all_goals first|(exfalso;omega)|skip
  conv=>whnf
  have hrl:=fun n=>XX hfd.ok n
  conv=>whnf
  refine Qs QBP (fun i:Nat=>i≤65) (nB p b bad d) (fun i=>65-i) 0 (yf _) (Wk.en (⟨(ai rfl (ai rfl (ai rfl (ai rfl (ai rfl trivial))))),ai rfl (ai rfl (ai rfl (ai rfl (ai rfl (ai rfl (ai (cells_eq (QQO _)) trivial)))))),QBQ rfl (by decide)⟩)) ?_
  intro i hi
  by_cases hil:i<65
  ·have hRd:=QAe (some d) hfd.ok (i:Nat)
   obtain⟨g,hg⟩:=Xy (hrl (i:Nat))
   have hput:=fun{o q:Nat} (h1:o=i*32) (h2:q=i*32+32)=>QNB (f:=rdS (some d)) hrl hil h1 h2
   rw[hg]at hRd hput
   unfold nB
   (repeat' ((conv=>whnf);first|((with_reducible refine QLa ?_);refine Z8.mk (QAJ (rdS (some d)) (i+1)) (hput (by show 0+((i:Nat):Int).toNat*32=i*32;omega) (by show 0+((i:Nat):Int).toNat*32+32=i*32+32;omega)) ?_)|refine CallE.inl ?_|with_reducible refine AtA.mk' ?_|refine rFk hRd ?_|refine QB ?_|intro x hx hu|intro h|refine Spp.mk ?_ ?_))
   all_goals first|(exfalso;omega)|skip
   exact⟨i+1,hil,by first|omega|(dsimp only;omega),Wk.en (⟨ai rfl (ai rfl (ai rfl (ai rfl (ai (QW (by omega)) trivial)))),(ai rfl (ai rfl (ai rfl (ai rfl (ai rfl (ai rfl (ai rfl trivial))))))),QBQ rfl (by decide)⟩)⟩
  ·have hie:i=65:=by omega
   subst hie
   have hLk:=X5 (some d) hfd.ok p (by omega)
   have hFs:=QCn (b:=b) hfd p (by omega)
   have hfd1:Fd bad (synP bad d p 1 [1,2]).1 151:=hfd.synP p 1 [1,2] (by decide) (by omega)
   have hSd:=QEg (b:=b) hfd1 p (by omega)
   have hfd2:=hfd1.synP p 2 [3,2] (by decide) (by omega)
   have hrd:=QLM bad d p
   have hww:=QM1 bad d p
   have hee:=QM2 bad d p
   have hWt:=QF2 (b:=b) hfd2
   generalize synP bad (synP bad d p 1 [1,2]).1 p 2 [3,2]=R2 at*
   generalize synP bad d p 1 [1,2]=R1 at*
   generalize Qa (rdS (some d)) p=q at*
   obtain⟨n,e⟩:=q
   obtain⟨d1,e1⟩:=R1
   obtain⟨d2,e2⟩:=R2
   dsimp only at*
   unfold nB
   (repeat' ((conv=>whnf);first|((with_reducible refine QNl ?_);refine CallI.wk (τ:=nC p b bad d (rdS (some d)) n) (Wk.en (⟨(ai rfl (ai rfl (ai rfl (ai rfl (ai rfl (ai rfl (ai rfl trivial))))))),(ai rfl (ai rfl (ai rfl (ai rfl (ai rfl (ai rfl (ai rfl trivial))))))),QBQ rfl (by decide)⟩)) ⟨_,_,_,_,_,_,rfl,rfl,rfl,rfl⟩ ?_;refine CallI.h hFs [1,2,3,4,5,6] ?_)|((with_reducible refine QNm ?_);refine CallI.wk (τ:=nD p b bad d1 (rdS (some d)) n e1) (Wk.en (⟨(ai rfl (ai rfl (ai rfl (ai rfl (ai rfl (ai rfl (ai rfl (ai rfl trivial)))))))),ai rfl (ai rfl (ai rfl (ai rfl (ai rfl (ai rfl (ai (cells_eq (QNp (L:=QJq (rdS (some d)) 65) (fun x=>rfl))) trivial)))))),QBQ rfl (by decide)⟩)) ⟨_,_,_,_,_,_,rfl,rfl,rfl,rfl⟩ ?_;refine CallI.h hSd [1,2,3,4,5,6] ?_)|refine CallE.inl ?_|refine rFk hLk ?_|refine QB ?_|intro x hx hu|intro h|refine Spp.mk ?_ ?_))
   all_goals first|(exfalso;omega)|skip
   conv=>whnf
   refine Qs QBP (fun i:Nat=>i≤65) (nE b bad d2 (rdS (some d)) n e1 e2) (fun i=>65-i) 0 (yf _) (Wk.en (⟨(ai rfl (ai rfl (ai rfl (ai rfl (ai rfl (ai rfl trivial)))))),ai rfl (ai rfl (ai rfl (ai rfl (ai rfl (ai rfl (ai (cells_eq (QNp (L:=QJq (rdS (some d)) 65) (fun x=>rfl))) trivial)))))),QBQ rfl (by decide)⟩)) ?_
   intro i hi
   by_cases hil:i<65
   ·have hRd:=QAe (some d2) hfd2.ok (i:Nat)
    rw[hrd (i:Nat) (by omega)]at hRd
    obtain⟨g,hg⟩:=Xy (hrl (i:Nat))
    have hld:=fun{ty:Ty} {o:Nat} {C:List AV} (hC:C=QAJ (rdS (some d)) 65) (ho:o=i*32) (ha:ty.kd.agg=true) (hz:ty.size=32)=>QOp (f:=rdS (some d)) hrl hC hil ho ha hz
    rw[hg]at hRd hld
    unfold nE
    (repeat' ((conv=>whnf);first|refine CallE.inl ?_|((with_reducible refine QLZ ?_);refine QEC QBP mixed (by decide+kernel) ?_)|((with_reducible refine QND ?_);first|refine AtA.eq (hld rfl (by show 0+((i:Nat):Int).toNat*32=i*32;omega) rfl rfl) ?_|refine AtA.mk' ?_)|refine rFk hRd ?_|refine QB ?_|intro x hx hu|intro h|refine Spp.mk ?_ ?_))
    all_goals first|(exfalso;omega)|skip
    ·exact ⟨i+1,hil,by first|omega|(dsimp only;omega),Wk.en (⟨ai rfl (ai rfl (ai rfl (ai rfl (ai rfl (ai (QW (by omega)) trivial))))),(ai rfl (ai rfl (ai rfl (ai rfl (ai rfl (ai rfl (ai rfl trivial))))))),QBQ rfl (by decide)⟩)⟩
    ·rename_i h
     exfalso
     revert h
     simp
     exact QGD (ZN g)
   ·have hie:i=65:=by omega
    subst hie
    have hwl:(d2.wait.map Qx).length=d2.wait.length:=ze ..
    have hwb:=hfd2.b.w
    unfold nE
    (repeat' ((conv=>whnf);first|refine CallE.inl ?_|refine CallI.h hWt [1,2,3,4,5] ?_|refine QB ?_|intro x hx hu|intro h|refine Spp.mk ?_ ?_))
    all_goals first|(exfalso;omega)|skip
    conv=>whnf
    refine Qs QBP (fun k:Nat=>k≤d2.wait.length) (nF d2.wait n e1 e2) (fun k=>d2.wait.length-k) 0 (yf _) (Wk.en (⟨(ai rfl (ai rfl (ai rfl (ai rfl (ai rfl trivial))))),trivial,rfl⟩)) ?_
    intro k hk
    have n1:=QAn e1
    have n2:=QAn e2
    by_cases hkl:k<d2.wait.length
    ·obtain ⟨w,hx⟩:=ZD hkl
     have hw:=hww w (yi hx)
     have hws:=hfd2.w w (yi hx)
     obtain⟨wa,wS,wk,wi,we⟩:=w
     obtain⟨g,rfl⟩:=Xy hws
     dsimp only at hw
     have hw2:wi≠n∨((e1≠0∨(wk≠1∧wk≠2))∧(e2≠0∨(wk≠3∧wk≠2))):=by
      by_cases h1:wi=n
      ·refine .inr ⟨?_,?_⟩
       ·by_cases h2:e1=0
        ·exact .inr ((hw h1).1 h2)
        ·exact .inl h2
       ·by_cases h2:e2=0
        ·exact .inr ((hw h1).2 h2)
        ·exact .inl h2
      ·exact .inl h1
     clear hw
     unfold nF
     (repeat' ((conv=>whnf);first|with_reducible refine ZY hx ?_|with_reducible refine AtA.mk' ?_|refine cEk n1 ?_|refine cEk n2 ?_|refine CallE.inl ?_|refine cPk n1 ?_|refine cPk n2 ?_|refine QB ?_|intro x hx hu|intro h|refine Spp.mk ?_ ?_))
     all_goals first|(exfalso;omega)|(exfalso;dsimp only at*;omega)|skip
     all_goals exact⟨k+1,hkl,by first|omega|(dsimp only;omega),Wk.en (⟨ai rfl (ai rfl (ai rfl (ai rfl (ai (QW (by omega)) trivial)))),trivial,rfl⟩)⟩
    ·unfold nF
     (repeat' ((conv=>whnf);first|refine cEk n1 ?_|refine cEk n2 ?_|refine CallE.inl ?_|refine cPk n1 ?_|refine cPk n2 ?_|refine QB ?_|intro x hx hu|intro h|refine Spp.mk ?_ ?_))
     all_goals first|(exfalso;omega)|skip
     all_goals first|rfl|exact YL (by rw[bne_iff_ne];omega)
end Go.Proofs.YtikgcbioagmkkaaGreatDoor
