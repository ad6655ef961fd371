/- Contracts of the functions that the law reaches, and the law. Conditions: none. -/
import Derived.Test.YtikgcbioagmkkaaGreatDoorFKK
set_option maxRecDepth 100000
set_option linter.all false
set_option maxHeartbeats 16000000
namespace Go.Proofs.YtikgcbioagmkkaaGreatDoor
open Go.Sy
theorem QOU{b:Bool}{bad:List Int}{d:Dk}{N:Nat}(h:Fd bad d N)(n:Int)(hn:0≤n∧n<16)(x:Ino)(hx:RI x)(off:Int)(c:List UInt8)(hc:c.length≤1000)(c1:off<0∨x.z<off):FnH Tryz.prog 104 [.ptr 5 0,.d (.it .i64 n),.dg 6 (Xc x),.d (.it .i64 off),.d (.fs 1 (QE c))] (QZ b bad d) 6 [0,5] (.d (.it .i64 ((d,(1:Int))).2)) (QZ b bad ((d,(1:Int))).1) 6:=by
 have hbl:(QE c).length=c.length:=ze ..
 have hz:=QK6 hx
 obtain⟨k,z,b0,b1,b2,b3⟩:=x
 dsimp only at*
 show FnH _ _ [.ptr 5 0,.d (.it .i64 n),.dg 6 [.it .i64 k,.it .i64 z,.it .i64 b0,.it .i64 b1,.it .i64 b2,.it .i64 b3],.d (.it .i64 off),.d (.fs 1 (QE c))] _ _ _ _ _ _
 refine QR QMI fun T=>?_
 (repeat' ((conv=>whnf);first|refine QB ?_|intro x hx hu|intro h|refine Spp.mk ?_ ?_))
 all_goals first|(exfalso;omega)|skip
 all_goals exact QJ
theorem QOV{b:Bool}{bad:List Int}{d:Dk}{N:Nat}(h:Fd bad d N)(n:Int)(hn:0≤n∧n<16)(x:Ino)(hx:RI x)(off:Int)(c:List UInt8)(hc:c.length≤1000)(c1:¬(off<0∨x.z<off))(c2:128-off<(c.length:Int)):FnH Tryz.prog 104 [.ptr 5 0,.d (.it .i64 n),.dg 6 (Xc x),.d (.it .i64 off),.d (.fs 1 (QE c))] (QZ b bad d) 6 [0,5] (.d (.it .i64 ((d,(2:Int))).2)) (QZ b bad ((d,(2:Int))).1) 6:=by
 have hbl:(QE c).length=c.length:=ze ..
 have hz:=QK6 hx
 rw[←hbl]at c2
 obtain⟨k,z,b0,b1,b2,b3⟩:=x
 dsimp only at*
 show FnH _ _ [.ptr 5 0,.d (.it .i64 n),.dg 6 [.it .i64 k,.it .i64 z,.it .i64 b0,.it .i64 b1,.it .i64 b2,.it .i64 b3],.d (.it .i64 off),.d (.fs 1 (QE c))] _ _ _ _ _ _
 refine QR QMI fun T=>?_
 (repeat' ((conv=>whnf);first|refine QB ?_|intro x hx hu|intro h|refine Spp.mk ?_ ?_))
 all_goals first|(exfalso;omega)|skip
 all_goals exact QJ
theorem QOW{b:Bool}{bad:List Int}{d:Dk}{N:Nat}(h:Fd bad d N)(n:Int)(hn:0≤n∧n<16)(x:Ino)(hx:RI x)(off:Int)(c:List UInt8)(hc:c.length≤1000)(c1:¬(off<0∨x.z<off))(c2:¬128-off<(c.length:Int))(c3:(frB (rdS (some d)) (nd (max x.z (off+c.length))-nd x.z)).length≠nd (max x.z (off+c.length))-nd x.z):FnH Tryz.prog 104 [.ptr 5 0,.d (.it .i64 n),.dg 6 (Xc x),.d (.it .i64 off),.d (.fs 1 (QE c))] (QZ b bad d) 6 [0,5] (.d (.it .i64 ((d,(2:Int))).2)) (QZ b bad ((d,(2:Int))).1) 6:=by
 have hbl:(QE c).length=c.length:=ze ..
 have hz:=QK6 hx
 rw[←hbl]at c2 c3
 have hn1:=Yp x.z (by omega)
 have hn2:=Yp (max x.z (off+(QE c).length)) (by omega)
 obtain⟨had,hhad⟩:∃had,nd x.z=had:=⟨_,rfl⟩
 obtain⟨nw,hnw⟩:∃nw,nd (max x.z (off+(QE c).length))-nd x.z=nw:=⟨_,rfl⟩
 have hnd:(nd (max x.z (off+(QE c).length)):Int)=(max x.z (off+(QE c).length)+31)/32:=by unfold nd;omega
 have hh:(x.z+31)/32=(had:Int):=by rw[←hhad];unfold nd;omega
 have hw:(max x.z (off+(QE c).length)+31)/32=(had:Int)+(nw:Int):=by rw[←hnw,←hhad];unfold nd;omega
 rw[hh]at hn1
 rw[hw]at hn2
 have h4:had+nw≤4:=by omega
 have hB:=QId (b:=b) h nw (by omega)
 rw[hnw]at c3
 have hvl:=QOj (frB (rdS (some d)) nw)
 unfold frV at hB
 have hfr:∀j∈frB (rdS (some d)) nw,1≤j∧j≤24:=fun j hj=>QEk hj
 generalize frB (rdS (some d)) nw=fr at*
 rw[if_neg c3]at hB
 show FnH _ _ [.ptr 5 0,.d (.it .i64 n),.dg 6 [.it .i64 x.k,.it .i64 x.z,.it .i64 x.b0,.it .i64 x.b1,.it .i64 x.b2,.it .i64 x.b3],.d (.it .i64 off),.d (.fs 1 (QE c))] _ _ _ _ _ _
 refine QR QMI fun T=>?_
 (repeat' ((conv=>whnf);first|refine cEk hn1 ?_|refine cEk hn2 ?_|refine CallE.inl ?_|refine cPk hn1 ?_|refine cPk hn2 ?_|((with_reducible refine QIh ?_);refine QX.mid (QQI b bad d T n x off c had) (QER QA mixed [1,1,1,1] (by decide+kernel) ?_) ?_)|((with_reducible refine Zu ?_);exact Wk.e)|with_reducible refine Qe.eq ((nw:Nat):Int) (QNo (by omega)) ?_|((with_reducible refine QIi ?_);refine QX.mid (QQJ b bad d T n x off c had (max x.z (off+(QE c).length)) [] false) (ZH QA mixed [0,0,0,1,3] QQH (by decide+kernel) ?_) ?_)|((with_reducible refine Zu ?_);exact Wk.e)|refine CallI.h hB [0,1,2,3,4] ?_|with_reducible exact trivial|with_reducible refine Br.mk ?_ ?_|with_reducible refine Qe.eq (max x.z (off+(QE c).length)) QIg ?_|refine QB ?_|intro x hx hu|intro h|refine Spp.mk ?_ ?_))
 all_goals first|(exfalso;omega)|skip
 all_goals exact QJ
theorem QOX{b:Bool}{bad:List Int}{d:Dk}{N:Nat}(h:Fd bad d N)(n:Int)(hn:0≤n∧n<16)(x:Ino)(hx:RI x)(off:Int)(c:List UInt8)(hc:c.length≤1000)(c1:¬(off<0∨x.z<off))(c2:¬128-off<(c.length:Int))(c3:(frB (rdS (some d)) (nd (max x.z (off+c.length))-nd x.z)).length=nd (max x.z (off+c.length))-nd x.z):FnH Tryz.prog 104 [.ptr 5 0,.d (.it .i64 n),.dg 6 (Xc x),.d (.it .i64 off),.d (.fs 1 (QE c))] (QZ b bad d) 6 [0,5] (.d (.it .i64 (Ym bad d (XG (rdS (some d)) n x (JI x (max x.z (off+c.length)) (nd x.z) (frB (rdS (some d)) (nd (max x.z (off+c.length))-nd x.z))) (nd x.z) off c 4++if JI x (max x.z (off+c.length)) (nd x.z) (frB (rdS (some d)) (nd (max x.z (off+c.length))-nd x.z))=x then []else [.wr ⟨1+n,Y1 (JI x (max x.z (off+c.length)) (nd x.z) (frB (rdS (some d)) (nd (max x.z (off+c.length))-nd x.z))),2,n,0⟩])).2)) (QZ b bad (Ym bad d (XG (rdS (some d)) n x (JI x (max x.z (off+c.length)) (nd x.z) (frB (rdS (some d)) (nd (max x.z (off+c.length))-nd x.z))) (nd x.z) off c 4++if JI x (max x.z (off+c.length)) (nd x.z) (frB (rdS (some d)) (nd (max x.z (off+c.length))-nd x.z))=x then []else [.wr ⟨1+n,Y1 (JI x (max x.z (off+c.length)) (nd x.z) (frB (rdS (some d)) (nd (max x.z (off+c.length))-nd x.z))),2,n,0⟩])).1) 6:=by
 have hbl:(QE c).length=c.length:=ze ..
 have hz:=QK6 hx
 rw[←hbl]at c2 c3⊢
 have hn1:=Yp x.z (by omega)
 have hn2:=Yp (max x.z (off+(QE c).length)) (by omega)
 obtain⟨had,hhad⟩:∃had,nd x.z=had:=⟨_,rfl⟩
 obtain⟨nw,hnw⟩:∃nw,nd (max x.z (off+(QE c).length))-nd x.z=nw:=⟨_,rfl⟩
 have hnd:(nd (max x.z (off+(QE c).length)):Int)=(max x.z (off+(QE c).length)+31)/32:=by unfold nd;omega
 have hh:(x.z+31)/32=(had:Int):=by rw[←hhad];unfold nd;omega
 have hw:(max x.z (off+(QE c).length)+31)/32=(had:Int)+(nw:Int):=by rw[←hnw,←hhad];unfold nd;omega
 rw[hh]at hn1
 rw[hw]at hn2
 have h4:had+nw≤4:=by omega
 have hB:=QId (b:=b) h nw (by omega)
 rw[hnw]at c3
 rw[hnw,hhad]
 have hvl:=QOj (frB (rdS (some d)) nw)
 unfold frV at hB
 have hfr:∀j∈frB (rdS (some d)) nw,1≤j∧j≤24:=fun j hj=>QEk hj
 generalize frB (rdS (some d)) nw=fr at*
 rw[if_pos (by omega)]at hB
 have hfl:fr.length=nw:=by omega
 have hyb:=fun i=>QIe hx hfr (max x.z (off+(QE c).length)) (had:=had) i
 have hpc:=fun C o q hC ho hq=>QOl (x:=x) (had:=had) (fr:=fr) (C:=C) (o:=o) (q:=q) (z:=max x.z (off+(QE c).length)) hC ho hq (by omega)
 obtain⟨R,hR⟩:∃R,Ym bad d (XG (rdS (some d)) n x (JI x (max x.z (off+(QE c).length)) had fr) had off c 4++if JI x (max x.z (off+(QE c).length)) had fr=x then []else [.wr ⟨1+n,Y1 (JI x (max x.z (off+(QE c).length)) had fr),2,n,0⟩])=R:=⟨_,rfl⟩
 rw[hR]
 generalize JI x (max x.z (off+(QE c).length)) had fr=y at hyb hpc hR
 show FnH _ _ [.ptr 5 0,.d (.it .i64 n),.dg 6 [.it .i64 x.k,.it .i64 x.z,.it .i64 x.b0,.it .i64 x.b1,.it .i64 x.b2,.it .i64 x.b3],.d (.it .i64 off),.d (.fs 1 (QE c))] _ _ _ _ _ _
 refine QR QMI fun T=>?_
 (repeat' ((conv=>whnf);first|refine cEk hn1 ?_|refine cEk hn2 ?_|refine CallE.inl ?_|refine cPk hn1 ?_|refine cPk hn2 ?_|((with_reducible refine QIh ?_);refine QX.mid (QQI b bad d T n x off c had) (QER QA mixed [1,1,1,1] (by decide+kernel) ?_) ?_)|((with_reducible refine Zu ?_);exact Wk.e)|with_reducible refine Qe.eq ((nw:Nat):Int) (QNo (by omega)) ?_|((with_reducible refine QIi ?_);refine QX.mid (QQJ b bad d T n x off c had (max x.z (off+(QE c).length)) fr true) (ZH QA mixed [0,0,0,1,3] QQH (by decide+kernel) ?_) ?_)|((with_reducible refine Zu ?_);exact Wk.e)|refine CallI.h hB [0,1,2,3,4] ?_|((with_reducible refine letC_id ?_);refine Z8.mk ((Xc y).map AV.d) (hpc _ _ _ (by with_unfolding_all exact rfl) (by show 0+2+((had:Nat):Int).toNat*1=_;omega) (by show 0+2+((had:Nat):Int).toNat*1+(vI fr).length*1=_;omega)) ?_)|with_reducible exact trivial|with_reducible refine Br.mk ?_ ?_|with_reducible refine Qe.eq (max x.z (off+(QE c).length)) QIg ?_|refine QB ?_|intro x hx hu|intro h|refine Spp.mk ?_ ?_))
 all_goals first|(exfalso;omega)|skip
 conv=>whnf
 refine Qs QA (fun s:Nat×Int=>off/32≤(s.1:Int)∧s.1≤4∧s.2=atK off c.length s.1) (ptA b bad d T n x y off c had) (fun s=>4-s.1) ((off/32).toNat,off) ⟨by dsimp only;omega,by dsimp only;omega,by dsimp only;unfold atK;omega⟩ ?_ ?_
 ·refine Wk.trans (Wk.nlTs 12 0 1 37 243 (by with_unfolding_all exact rfl) (by with_unfolding_all exact rfl)) ?_
  refine Wk.en ⟨ai rfl (ai rfl (ai rfl (ai rfl (ai rfl (ai rfl (ai rfl (ai rfl (ai rfl (ai rfl trivial))))))))),ai rfl (ai rfl (ai (by (conv=>whnf);exact QEl (a:=[]) (by with_unfolding_all exact rfl) (by rw[QJV (fun i hi=>decide_eq_false (by omega))];rfl)) (ai rfl (ai rfl (ai rfl (ai rfl (ai rfl (ai rfl (ai rfl (ai rfl (ai rfl (ai rfl trivial)))))))))))),rfl⟩
 intro⟨k,p⟩ hk0
 have hk1:=hk0.1
 have hk2:=hk0.2.1
 have hp:=hk0.2.2
 dsimp only at hk1 hk2 hp
 by_cases hlt:p<off+(QE c).length
 ·have f:=QQK (off:=off) (len:=c.length) (k:=k) (by omega) hk1 (by rw[←hp,←hbl];exact hlt)
  have hsW:=QKs (base:=if k<had then rdS (some d) (40+Xu x k)else Q0) (by split;exact XX h.ok _;rfl) (off:=off) (b:=c) (k:=k) (by omega) (by omega) (by rw[←hp,←hbl];exact hlt) (by rw[←hp]at f;omega)
  have hds:=QDk (rdS (some d)) n x y had off c k
  rw[if_pos f.2.2.2.2.2.2.2]at hds
  unfold QMf at hds
  obtain⟨q,hq⟩:∃q,atK off c.length (k+1)=q:=⟨_,rfl⟩
  rw[hq,←hp]at f hsW
  obtain⟨f1,f2,f3,f4,f5,f6,f7,f8⟩:=f
  have hxb:=QAo hx k
  have hyk:=hyb k
  have hS:=QM8 (if k<had then rdS (some d) (40+Xu x k)else Q0) (by split;exact XX h.ok _;rfl) (p-32*(k:Int)).toNat ((c.drop (p-off).toNat).take (q-p).toNat) (by rw[z2,yg];omega)
  rw[hsW,QJp,show(p-off).toNat+(q-p).toNat=(q-off).toNat by omega]at hS
  obtain⟨g2,hg2⟩:=Xy (QAi (if k<had then rdS (some d) (40+Xu x k)else Q0) k off c)
  rw[hg2]at hS hds
  have hB2:=QMe (XG (rdS (some d)) n x y had off c k) (by have:= @QCp (rdS (some d)) n x y had off c k;omega) (Xu y k) (by omega) (ZN g2) rfl n
  rw[←hds]at hB2
  have hsec:=QKy d h.ok (Xu x k) (by omega)
  have hQ:=QQF f2 f3 (by omega)
  have hM:=QQG f2 f3
  have hk4:k=0∨k=1∨k=2∨k=3:=by omega
  by_cases hkh:k<had
  ·rw [if_pos hkh]at hS
   obtain⟨g0,hg0⟩:=Xy (XX h.ok (40+Xu x k))
   rw[hg0]at hS hsec
   rcases hk4 with rfl|rfl|rfl|rfl
   ·(repeat' ((conv=>whnf);first|with_reducible refine Qe.eq _ hQ ?_|with_reducible refine Qe.eq _ hM ?_|with_reducible refine Qe.eq q (by first|(split<;>omega)) ?_|((with_reducible refine ZL ?_);first|refine AtA.eq (J7 (s:=ZN g2) rfl rfl rfl rfl) ?_|refine AtA.mk' ?_)|refine cEk hS ?_|refine CallE.inl ?_|refine Ze.mk ⟨_,hS,?_⟩|((with_reducible refine Ya ?_);refine QX.mid (ptB b bad d T n x y off c had 0 p q (XG (rdS (some d)) n x y had off c 0) (ZN g2)) (ZH QA mixed [1,2,2,2,2,2,2,2] QBr (by decide+kernel) ?_) ?_)|((with_reducible refine Zu ?_);exact Wk.e)|refine rFk hsec ?_|refine CallI.h hB2 [12,13] ?_|with_reducible exact trivial|with_reducible refine Br.mk ?_ ?_|refine QB ?_|intro x hx hu|intro h|refine Spp.mk ?_ ?_))
    all_goals first|(exfalso;omega)|skip
    exact⟨(0+1,q),⟨by dsimp only;omega,by dsimp only;omega,hq.symm⟩,by first|omega|(dsimp only;omega),Wk.en ⟨(ai rfl (ai rfl (ai rfl (ai rfl (ai rfl (ai rfl (ai rfl (ai rfl (ai rfl (ai rfl trivial)))))))))),ai rfl (ai rfl (ai (by (conv=>whnf);exact QEl (by with_unfolding_all exact rfl) rfl) (ai rfl (ai rfl (ai rfl (ai rfl (ai rfl (ai rfl (ai rfl (ai rfl (ai rfl (ai rfl trivial)))))))))))),rfl⟩⟩
   ·(repeat' ((conv=>whnf);first|with_reducible refine Qe.eq _ hQ ?_|with_reducible refine Qe.eq _ hM ?_|with_reducible refine Qe.eq q (by first|(split<;>omega)) ?_|((with_reducible refine ZL ?_);first|refine AtA.eq (J7 (s:=ZN g2) rfl rfl rfl rfl) ?_|refine AtA.mk' ?_)|refine cEk hS ?_|refine CallE.inl ?_|refine Ze.mk ⟨_,hS,?_⟩|((with_reducible refine Ya ?_);refine QX.mid (ptB b bad d T n x y off c had 1 p q (XG (rdS (some d)) n x y had off c 1) (ZN g2)) (ZH QA mixed [1,2,2,2,2,2,2,2] QBr (by decide+kernel) ?_) ?_)|((with_reducible refine Zu ?_);exact Wk.e)|refine rFk hsec ?_|refine CallI.h hB2 [12,13] ?_|with_reducible exact trivial|with_reducible refine Br.mk ?_ ?_|refine QB ?_|intro x hx hu|intro h|refine Spp.mk ?_ ?_))
    all_goals first|(exfalso;omega)|skip
    exact⟨(1+1,q),⟨by dsimp only;omega,by dsimp only;omega,hq.symm⟩,by first|omega|(dsimp only;omega),Wk.en ⟨(ai rfl (ai rfl (ai rfl (ai rfl (ai rfl (ai rfl (ai rfl (ai rfl (ai rfl (ai rfl trivial)))))))))),ai rfl (ai rfl (ai (by (conv=>whnf);exact QEl (by with_unfolding_all exact rfl) rfl) (ai rfl (ai rfl (ai rfl (ai rfl (ai rfl (ai rfl (ai rfl (ai rfl (ai rfl (ai rfl trivial)))))))))))),rfl⟩⟩
   ·(repeat' ((conv=>whnf);first|with_reducible refine Qe.eq _ hQ ?_|with_reducible refine Qe.eq _ hM ?_|with_reducible refine Qe.eq q (by first|(split<;>omega)) ?_|((with_reducible refine ZL ?_);first|refine AtA.eq (J7 (s:=ZN g2) rfl rfl rfl rfl) ?_|refine AtA.mk' ?_)|refine cEk hS ?_|refine CallE.inl ?_|refine Ze.mk ⟨_,hS,?_⟩|((with_reducible refine Ya ?_);refine QX.mid (ptB b bad d T n x y off c had 2 p q (XG (rdS (some d)) n x y had off c 2) (ZN g2)) (ZH QA mixed [1,2,2,2,2,2,2,2] QBr (by decide+kernel) ?_) ?_)|((with_reducible refine Zu ?_);exact Wk.e)|refine rFk hsec ?_|refine CallI.h hB2 [12,13] ?_|with_reducible exact trivial|with_reducible refine Br.mk ?_ ?_|refine QB ?_|intro x hx hu|intro h|refine Spp.mk ?_ ?_))
    all_goals first|(exfalso;omega)|skip
    exact⟨(2+1,q),⟨by dsimp only;omega,by dsimp only;omega,hq.symm⟩,by first|omega|(dsimp only;omega),Wk.en ⟨(ai rfl (ai rfl (ai rfl (ai rfl (ai rfl (ai rfl (ai rfl (ai rfl (ai rfl (ai rfl trivial)))))))))),ai rfl (ai rfl (ai (by (conv=>whnf);exact QEl (by with_unfolding_all exact rfl) rfl) (ai rfl (ai rfl (ai rfl (ai rfl (ai rfl (ai rfl (ai rfl (ai rfl (ai rfl (ai rfl trivial)))))))))))),rfl⟩⟩
   ·(repeat' ((conv=>whnf);first|with_reducible refine Qe.eq _ hQ ?_|with_reducible refine Qe.eq _ hM ?_|with_reducible refine Qe.eq q (by first|(split<;>omega)) ?_|((with_reducible refine ZL ?_);first|refine AtA.eq (J7 (s:=ZN g2) rfl rfl rfl rfl) ?_|refine AtA.mk' ?_)|refine cEk hS ?_|refine CallE.inl ?_|refine Ze.mk ⟨_,hS,?_⟩|((with_reducible refine Ya ?_);refine QX.mid (ptB b bad d T n x y off c had 3 p q (XG (rdS (some d)) n x y had off c 3) (ZN g2)) (ZH QA mixed [1,2,2,2,2,2,2,2] QBr (by decide+kernel) ?_) ?_)|((with_reducible refine Zu ?_);exact Wk.e)|refine rFk hsec ?_|refine CallI.h hB2 [12,13] ?_|with_reducible exact trivial|with_reducible refine Br.mk ?_ ?_|refine QB ?_|intro x hx hu|intro h|refine Spp.mk ?_ ?_))
    all_goals first|(exfalso;omega)|skip
    exact⟨(3+1,q),⟨by dsimp only;omega,by dsimp only;omega,hq.symm⟩,by first|omega|(dsimp only;omega),Wk.en ⟨(ai rfl (ai rfl (ai rfl (ai rfl (ai rfl (ai rfl (ai rfl (ai rfl (ai rfl (ai rfl trivial)))))))))),ai rfl (ai rfl (ai (by (conv=>whnf);exact QEl (by with_unfolding_all exact rfl) rfl) (ai rfl (ai rfl (ai rfl (ai rfl (ai rfl (ai rfl (ai rfl (ai rfl (ai rfl (ai rfl trivial)))))))))))),rfl⟩⟩
  ·rw [if_neg hkh]at hS
   rcases hk4 with rfl|rfl|rfl|rfl
   ·(repeat' ((conv=>whnf);first|with_reducible refine Qe.eq _ hQ ?_|with_reducible refine Qe.eq _ hM ?_|with_reducible refine Qe.eq q (by first|(split<;>omega)) ?_|((with_reducible refine ZL ?_);first|refine AtA.eq (J7 (s:=ZN g2) rfl rfl rfl rfl) ?_|refine AtA.mk' ?_)|refine cEk hS ?_|refine CallE.inl ?_|refine Ze.mk ⟨_,hS,?_⟩|((with_reducible refine Ya ?_);refine QX.mid (ptB b bad d T n x y off c had 0 p q (XG (rdS (some d)) n x y had off c 0) (ZN g2)) (ZH QA mixed [1,2,2,2,2,2,2,2] QBr (by decide+kernel) ?_) ?_)|((with_reducible refine Zu ?_);exact Wk.e)|refine CallI.h hB2 [12,13] ?_|with_reducible exact trivial|with_reducible refine Br.mk ?_ ?_|refine QB ?_|intro x hx hu|intro h|refine Spp.mk ?_ ?_))
    all_goals first|(exfalso;omega)|skip
    exact⟨(0+1,q),⟨by dsimp only;omega,by dsimp only;omega,hq.symm⟩,by first|omega|(dsimp only;omega),Wk.en ⟨(ai rfl (ai rfl (ai rfl (ai rfl (ai rfl (ai rfl (ai rfl (ai rfl (ai rfl (ai rfl trivial)))))))))),ai rfl (ai rfl (ai (by (conv=>whnf);exact QEl (by with_unfolding_all exact rfl) rfl) (ai rfl (ai rfl (ai rfl (ai rfl (ai rfl (ai rfl (ai rfl (ai rfl (ai rfl (ai rfl trivial)))))))))))),rfl⟩⟩
   ·(repeat' ((conv=>whnf);first|with_reducible refine Qe.eq _ hQ ?_|with_reducible refine Qe.eq _ hM ?_|with_reducible refine Qe.eq q (by first|(split<;>omega)) ?_|((with_reducible refine ZL ?_);first|refine AtA.eq (J7 (s:=ZN g2) rfl rfl rfl rfl) ?_|refine AtA.mk' ?_)|refine cEk hS ?_|refine CallE.inl ?_|refine Ze.mk ⟨_,hS,?_⟩|((with_reducible refine Ya ?_);refine QX.mid (ptB b bad d T n x y off c had 1 p q (XG (rdS (some d)) n x y had off c 1) (ZN g2)) (ZH QA mixed [1,2,2,2,2,2,2,2] QBr (by decide+kernel) ?_) ?_)|((with_reducible refine Zu ?_);exact Wk.e)|refine CallI.h hB2 [12,13] ?_|with_reducible exact trivial|with_reducible refine Br.mk ?_ ?_|refine QB ?_|intro x hx hu|intro h|refine Spp.mk ?_ ?_))
    all_goals first|(exfalso;omega)|skip
    exact⟨(1+1,q),⟨by dsimp only;omega,by dsimp only;omega,hq.symm⟩,by first|omega|(dsimp only;omega),Wk.en ⟨(ai rfl (ai rfl (ai rfl (ai rfl (ai rfl (ai rfl (ai rfl (ai rfl (ai rfl (ai rfl trivial)))))))))),ai rfl (ai rfl (ai (by (conv=>whnf);exact QEl (by with_unfolding_all exact rfl) rfl) (ai rfl (ai rfl (ai rfl (ai rfl (ai rfl (ai rfl (ai rfl (ai rfl (ai rfl (ai rfl trivial)))))))))))),rfl⟩⟩
   ·(repeat' ((conv=>whnf);first|with_reducible refine Qe.eq _ hQ ?_|with_reducible refine Qe.eq _ hM ?_|with_reducible refine Qe.eq q (by first|(split<;>omega)) ?_|((with_reducible refine ZL ?_);first|refine AtA.eq (J7 (s:=ZN g2) rfl rfl rfl rfl) ?_|refine AtA.mk' ?_)|refine cEk hS ?_|refine CallE.inl ?_|refine Ze.mk ⟨_,hS,?_⟩|((with_reducible refine Ya ?_);refine QX.mid (ptB b bad d T n x y off c had 2 p q (XG (rdS (some d)) n x y had off c 2) (ZN g2)) (ZH QA mixed [1,2,2,2,2,2,2,2] QBr (by decide+kernel) ?_) ?_)|((with_reducible refine Zu ?_);exact Wk.e)|refine CallI.h hB2 [12,13] ?_|with_reducible exact trivial|with_reducible refine Br.mk ?_ ?_|refine QB ?_|intro x hx hu|intro h|refine Spp.mk ?_ ?_))
    all_goals first|(exfalso;omega)|skip
    exact⟨(2+1,q),⟨by dsimp only;omega,by dsimp only;omega,hq.symm⟩,by first|omega|(dsimp only;omega),Wk.en ⟨(ai rfl (ai rfl (ai rfl (ai rfl (ai rfl (ai rfl (ai rfl (ai rfl (ai rfl (ai rfl trivial)))))))))),ai rfl (ai rfl (ai (by (conv=>whnf);exact QEl (by with_unfolding_all exact rfl) rfl) (ai rfl (ai rfl (ai rfl (ai rfl (ai rfl (ai rfl (ai rfl (ai rfl (ai rfl (ai rfl trivial)))))))))))),rfl⟩⟩
   ·(repeat' ((conv=>whnf);first|with_reducible refine Qe.eq _ hQ ?_|with_reducible refine Qe.eq _ hM ?_|with_reducible refine Qe.eq q (by first|(split<;>omega)) ?_|((with_reducible refine ZL ?_);first|refine AtA.eq (J7 (s:=ZN g2) rfl rfl rfl rfl) ?_|refine AtA.mk' ?_)|refine cEk hS ?_|refine CallE.inl ?_|refine Ze.mk ⟨_,hS,?_⟩|((with_reducible refine Ya ?_);refine QX.mid (ptB b bad d T n x y off c had 3 p q (XG (rdS (some d)) n x y had off c 3) (ZN g2)) (ZH QA mixed [1,2,2,2,2,2,2,2] QBr (by decide+kernel) ?_) ?_)|((with_reducible refine Zu ?_);exact Wk.e)|refine CallI.h hB2 [12,13] ?_|with_reducible exact trivial|with_reducible refine Br.mk ?_ ?_|refine QB ?_|intro x hx hu|intro h|refine Spp.mk ?_ ?_))
    all_goals first|(exfalso;omega)|skip
    exact⟨(3+1,q),⟨by dsimp only;omega,by dsimp only;omega,hq.symm⟩,by first|omega|(dsimp only;omega),Wk.en ⟨(ai rfl (ai rfl (ai rfl (ai rfl (ai rfl (ai rfl (ai rfl (ai rfl (ai rfl (ai rfl trivial)))))))))),ai rfl (ai rfl (ai (by (conv=>whnf);exact QEl (by with_unfolding_all exact rfl) rfl) (ai rfl (ai rfl (ai rfl (ai rfl (ai rfl (ai rfl (ai rfl (ai rfl (ai rfl (ai rfl trivial)))))))))))),rfl⟩⟩
 ·have hend:=QFq (f:=rdS (some d)) (n:=n) (x:=x) (y:=y) (had:=had) (QOm (off:=off) (len:=c.length) (k:=k) (by rw[←hp,←hbl];exact hlt)) (4-k)
  rw[show k+(4-k)=4 by omega]at hend
  rw[hend]at hR
  have hdo:=QIf (f:=rdS (some d)) (n:=n) (x:=x) (y:=y) (had:=had) (off:=off) (b:=c) (k:=k) hyb
  have hdl:= @QCp (rdS (some d)) n x y had off c k
  by_cases hyx:y=x
  ·rw [if_pos hyx,y7]at hR
   have g3:=QCf (b:=b) h (XG (rdS (some d)) n x y had off c k) hdo (by omega)
   rw[hR]at g3
   have hE:=(QLS (x:=x) (y:=y)).trans (decide_eq_true hyx)
   (repeat' ((conv=>whnf);first|with_reducible refine Spl.nt ?_|with_reducible refine Spl.yes hE ?_|refine CallE.inl ?_|refine CallI.hp g3 [0,1,2,3,4,5] ?_|refine QB ?_|intro x hx hu|intro h|refine Spp.mk ?_ ?_))
   all_goals first|(exfalso;omega)|skip
   exact QJ
  ·rw [if_neg hyx]at hR
   have g1:=QEY (XG (rdS (some d)) n x y had off c k) (by omega) n (by omega) y 2 n
   have g3:=QCf (b:=b) h (XG (rdS (some d)) n x y had off c k++[.wr ⟨1+n,Y1 y,2,n,0⟩]) (fun s hs=>by
    rcases ye.1 hs with hs|hs
    ·exact hdo s hs
    ·rw [xm.1 hs];exact QF0 n hn _ _ _) (by rw[zt,xb];omega)
   rw[hR]at g3
   have hE:=(QLS (x:=x) (y:=y)).trans (decide_eq_false hyx)
   (repeat' ((conv=>whnf);first|with_reducible refine Spl.nt ?_|with_reducible refine Spl.no hE ?_|refine CallE.inl ?_|refine CallI.h g1 [12,13] ?_|refine CallI.hp g3 [0,1,2,3,4,5] ?_|refine QB ?_|intro x hx hu|intro h|refine Spp.mk ?_ ?_))
   all_goals first|(exfalso;omega)|skip
   exact QJ
theorem QLA{b:Bool}{bad:List Int}{d:Dk}{N:Nat}(h:Fd bad d N)(n:Int)(hn:0≤n∧n<16)(x:Ino)(hx:RI x)(off:Int)(c:List UInt8)(hc:c.length≤1000):FnH Tryz.prog 104 [.ptr 5 0,.d (.it .i64 n),.dg 6 (Xc x),.d (.it .i64 off),.d (.fs 1 (QE c))] (QZ b bad d) 6 [0,5] (.d (.it .i64 (runP bad d (QFn (rdS (some d)) n x off c)).2)) (QZ b bad (runP bad d (QFn (rdS (some d)) n x off c)).1) 6:=by
 unfold QFn
 by_cases c1:off<0∨x.z<off
 ·rw [if_pos c1,Zd (by decide)]
  exact QOU h n hn x hx off c hc c1
 ·rw [if_neg c1]
  by_cases c2:128-off<(c.length:Int)
  ·rw [if_pos c2,Zd (by decide)]
   exact QOV h n hn x hx off c hc c1 c2
  ·rw [if_neg c2]
   by_cases c3:(frB (rdS (some d)) (nd (max x.z (off+c.length))-nd x.z)).length≠nd (max x.z (off+c.length))-nd x.z
   ·rw [if_pos c3,Zd (by decide)]
    exact QOW h n hn x hx off c hc c1 c2 c3
   ·rw [if_neg c3,JE]
    exact QOX h n hn x hx off c hc c1 c2 (uv c3)
theorem QLB{b:Bool}{bad:List Int}{d:Dk}{N:Nat}(h:Fd bad d N)(p:List UInt8)(hp:p.length≤100000)(off:Int)(c:List UInt8)(hc:c.length≤1000):
  FnH Tryz.prog 69 [.ptr 5 0,.d (.st p),.d (.it .i64 off),.d (.fs 1 (QE c))] (QZ b bad d) 6 [0,5] (.d (.it .i64 (runP bad d (QFo (rdS (some d)) p off c)).2)) (QZ b bad (runP bad d (QFo (rdS (some d)) p off c)).1) 6:=by
 have h1:=QCk d h.ok p hp
 have hn:=QCm (rdS (some d)) p
 have h2:=QLA (b:=b) h (Y2 (rdS (some d)) p).1 hn (Y2 (rdS (some d)) p).2.1 (QCJ _ _) off c hc
 unfold QFo QKo
 generalize Y2 (rdS (some d)) p=q at*
 obtain⟨n,⟨k,z,b0,b1,b2,b3⟩,e⟩:=q
 dsimp only at*
 replace h1:FnC Tryz.prog 103 [.d (.fp 1 [QS (some d)]),.d (.st p)] (.tup [.d (.it .i64 n),.dg 6 [.it .i64 k,.it .i64 z,.it .i64 b0,.it .i64 b1,.it .i64 b2,.it .i64 b3],.d (.it .i64 e)]):=h1
 by_cases c1:e=0
 ·subst c1
  rw[if_neg (by simp)]
  generalize runP bad d (QFn (rdS (some d)) n ⟨k,z,b0,b1,b2,b3⟩ off c)=R at*
  refine QR i69 fun T=>?_
  (repeat' ((conv=>whnf);first|refine CallE.inl ?_|refine rFk h1 ?_|refine CallI.h h2 [0,1,2,3,4,5] ?_|refine QB ?_|intro x hx hu|intro h|refine Spp.mk ?_ ?_))
  exact QJ
 ·rw [if_pos c1,Zd c1]
  refine QR i69 fun T=>?_
  (repeat' ((conv=>whnf);first|refine CallE.inl ?_|refine rFk h1 ?_|refine QB ?_|intro x hx hu|intro h|refine Spp.mk ?_ ?_))
  exact QJ
theorem QDp{b:Bool}{bad:List Int}{d:Dk}{N:Nat}(h:Fd bad d N)(p:List UInt8)(hp:p.length≤100000)(c:List UInt8)(hc:c.length≤1000):
  FnH Tryz.prog 48 [.ptr 5 0,.d (.st p),.d (.fs 1 (QE c))] (QZ b bad d) 6 [0,5] (.d (.it .i64 (runP bad d (QFp (rdS (some d)) p c)).2)) (QZ b bad (runP bad d (QFp (rdS (some d)) p c)).1) 6:=by
 have h1:=QCk d h.ok p hp
 have hn:=QCm (rdS (some d)) p
 have h2:=QLA (b:=b) h (Y2 (rdS (some d)) p).1 hn (Y2 (rdS (some d)) p).2.1 (QCJ _ _) (Y2 (rdS (some d)) p).2.1.z c hc
 unfold QFp QKo
 generalize Y2 (rdS (some d)) p=q at*
 obtain⟨n,⟨k,z,b0,b1,b2,b3⟩,e⟩:=q
 dsimp only at*
 replace h1:FnC Tryz.prog 103 [.d (.fp 1 [QS (some d)]),.d (.st p)] (.tup [.d (.it .i64 n),.dg 6 [.it .i64 k,.it .i64 z,.it .i64 b0,.it .i64 b1,.it .i64 b2,.it .i64 b3],.d (.it .i64 e)]):=h1
 by_cases c1:e=0
 ·subst c1
  rw[if_neg (by simp)]
  generalize runP bad d (QFn (rdS (some d)) n ⟨k,z,b0,b1,b2,b3⟩ z c)=R at*
  refine QR i48 fun T=>?_
  (repeat' ((conv=>whnf);first|refine CallE.inl ?_|refine rFk h1 ?_|refine CallI.h h2 [0,1,2,3,4,5] ?_|refine QB ?_|intro x hx hu|intro h|refine Spp.mk ?_ ?_))
  exact QJ
 ·rw [if_pos c1,Zd c1]
  refine QR i48 fun T=>?_
  (repeat' ((conv=>whnf);first|refine CallE.inl ?_|refine rFk h1 ?_|refine QB ?_|intro x hx hu|intro h|refine Spp.mk ?_ ?_))
  exact QJ
end Go.Proofs.YtikgcbioagmkkaaGreatDoor
