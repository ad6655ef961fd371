/- Contracts of the functions that the law reaches, and the law. Conditions: none. -/
import Derived.Test.YtikgcbioagmkkaaGreatDoorKK
set_option maxRecDepth 100000
set_option linter.all false
set_option maxHeartbeats 16000000
namespace Go.Proofs.YtikgcbioagmkkaaGreatDoor
open Go.Sy
def QAj(base:List UInt8)(i:Nat)(off:Int)(b:List UInt8)(j:Nat):List UInt8:=
 (List.range 32).map fun t:Nat=>if t<j∧(off≤32*(i:Int)+(t:Int)∧32*(i:Int)+(t:Int)<off+(b.length:Int))then b.getD (32*(i:Int)+(t:Int)-off).toNat 0 else base.getD t 0
theorem YA(base:List UInt8)(i:Nat)(off:Int)(b:List UInt8)(j:Nat):(QAj base i off b j).length=32:=by unfold QAj;rw[zb,xl]
theorem QAM{base:List UInt8}{i:Nat}{off:Int}{b:List UInt8}{j t:Nat}(h:t<(QAj base i off b j).length):(QAj base i off b j)[t]=if t<j∧(off≤32*(i:Int)+(t:Int)∧32*(i:Int)+(t:Int)<off+(b.length:Int))then b.getD (32*(i:Int)+(t:Int)-off).toNat 0 else base.getD t 0:=by simp only[QAj,zy,xy]
theorem QMf{base:List UInt8}(hb:base.length=32)(i:Nat)(off:Int)(b:List UInt8):QAj base i off b 0=base:=by
 refine ve (by rw[YA,hb]) fun t h1 h2=>?_
 rw[QAM,if_neg (by omega),zk,zi h2];rfl
theorem QJ5(base:List UInt8)(i:Nat)(off:Int)(b:List UInt8):QAj base i off b 32=QEi base i off b:=by
 refine ve (by rw[YA,J4]) fun t h1 h2=>?_
 rw[QAM]
 rw[YA]at h1
 simp only[QEi,zy,xy]
 by_cases hc:off≤32*(i:Int)+(t:Int)∧32*(i:Int)+(t:Int)<off+(b.length:Int)
 ·rw [if_pos hc,if_pos ⟨h1,hc⟩]
 ·rw [if_neg hc,if_neg fun h=>hc h.2]
theorem QO6{base:List UInt8}{i:Nat}{off:Int}{b:List UInt8}{j:Nat}(h:¬(off≤32*(i:Int)+(j:Int)∧32*(i:Int)+(j:Int)<off+(b.length:Int))):QAj base i off b (j+1)=QAj base i off b j:=by
 refine ve (by rw[YA,YA]) fun t h1 h2=>?_
 rw[QAM,QAM]
 by_cases hc:off≤32*(i:Int)+(t:Int)∧32*(i:Int)+(t:Int)<off+(b.length:Int)
 ·by_cases ht:t<j
  ·rw [if_pos ⟨by omega,hc⟩,if_pos ⟨ht,hc⟩]
  ·by_cases hj:t=j
   ·rw [hj]at hc;exact absurd hc h
   ·rw [if_neg (by omega),if_neg (by omega)]
 ·rw [if_neg fun h=>hc h.2,if_neg fun h=>hc h.2]
theorem QMg{base:List UInt8}{i:Nat}{off:Int}{b:List UInt8}{j:Nat}{v:UInt8}(h:off≤32*(i:Int)+(j:Int)∧32*(i:Int)+(j:Int)<off+(b.length:Int))(hv:b[(32*(i:Int)+(j:Int)-off).toNat]? =some v):QAj base i off b (j+1)=(QAj base i off b j).set j v:=by
 refine ve (by rw[vo,YA,YA]) fun t h1 h2=>?_
 rw[QAM,vp,QAM]
 by_cases hj:j=t
 ·subst hj
  rw[if_pos ⟨by omega,h⟩,if_pos rfl,zk,hv];rfl
 ·rw [if_neg hj]
  by_cases hc:off≤32*(i:Int)+(t:Int)∧32*(i:Int)+(t:Int)<off+(b.length:Int)
  ·by_cases ht:t<j
   ·rw [if_pos ⟨by omega,hc⟩,if_pos ⟨ht,hc⟩]
   ·rw [if_neg (by omega),if_neg (by omega)]
  ·rw [if_neg fun h=>hc h.2,if_neg fun h=>hc h.2]
def inJ(off:Int)(len i j:Nat):Bool:=(List.range j).any fun t:Nat=>decide (off≤32*(i:Int)+(t:Int)∧32*(i:Int)+(t:Int)<off+(len:Int))
theorem QMh(off:Int)(len i j:Nat):inJ off len i (j+1)=(inJ off len i j||decide (off≤32*(i:Int)+(j:Int)∧32*(i:Int)+(j:Int)<off+(len:Int))):=by
 unfold inJ
 rw[vm,je];simp
theorem QQu(off:Int)(len i:Nat):inJ off len i 32=QAy off len i:=by
 unfold inJ QAy
 rw[wc,decide_eq_true_eq,List.any_eq_true]
 constructor
 ·rintro ⟨t,ht,h⟩
  have ht:=y4.1 ht
  have h:=of_decide_eq_true h
  omega
 ·intro h
  exact⟨(max off (32*(i:Int))-32*(i:Int)).toNat,y4.2 (by omega),decide_eq_true (by omega)⟩
theorem QLA{l:List UInt8}{j:Nat}{v:UInt8}(h:j<l.length):((QJ l).map AV.d).take j++[AV.d (.it .u8 v.toNat)]++((QJ l).map AV.d).drop (j+1)=(QJ (l.set j v)).map AV.d:=by
 unfold QJ
 rw[uz,if_pos h]
 simp only[yc,ug,u6,wy,y5,kp]
def dW(f:Int→List UInt8)(n:Int)(x y:Ino)(had:Nat)(off:Int)(b:List UInt8)(i:Nat):Wr:=⟨40+Q0 y i,QEi (if i<had then f (40+Q0 x i)else Qh) i off b,1,n,0⟩
def dwK(f:Int→List UInt8)(n:Int)(x y:Ino)(had:Nat)(off:Int)(b:List UInt8)(k:Nat):List Wr:=((List.range k).filter (QAy off b.length)).map (dW f n x y had off b)
theorem QF9(f:Int→List UInt8)(n:Int)(x y:Ino)(had:Nat)(off:Int)(b:List UInt8)(k:Nat):(dwK f n x y had off b k).map Stp.wr=Z9 f n x y had off b k:=by
 unfold dwK Z9
 rw[km];rfl
theorem QMi(f:Int→List UInt8)(n:Int)(x y:Ino)(had:Nat)(off:Int)(b:List UInt8)(k:Nat):dwK f n x y had off b (k+1)=dwK f n x y had off b k++if QAy off b.length k=true then [dW f n x y had off b k]else []:=by
 unfold dwK
 rw[vm,u9,yc]
 congr 1
 by_cases h:QAy off b.length k=true
 ·rw [if_pos h,We h];rfl
 ·rw [if_neg h,Wf h];rfl
theorem QQv{f:Int→List UInt8}{n:Int}{x y:Ino}{had:Nat}{off:Int}{b:List UInt8}{k:Nat}(hy:∀i,0≤Q0 y i∧Q0 y i≤24):∀w∈dwK f n x y had off b k,QEh (.wr w):=fun w hw=>
 QGK (f:=f) (n:=n) (x:=x) (y:=y) (had:=had) (off:=off) (b:=b) (k:=k) hy _ (by rw[←QF9];exact List.mem_map_of_mem hw)
theorem QJ6{f:Int→List UInt8}{n:Int}{x y:Ino}{had:Nat}{off:Int}{b:List UInt8}{k:Nat}:(dwK f n x y had off b k).length≤k:=by
 have:=QBg (f:=f) (n:=n) (x:=x) (y:=y) (had:=had) (off:=off) (b:=b) (k:=k)
 rwa [←QF9,zb]at this
theorem QMj{x:Ino}{z:Int}{had:Nat}{fr:List Int}(i:Nat)(h:i<had)(h4:i<4):Q0 (Xa x z had fr) i=Q0 x i:=by
 have c:i=0∨i=1∨i=2∨i=3:=by omega
 rcases c with rfl|rfl|rfl|rfl
 all_goals exact if_neg (by omega)
theorem QMk(x:Ino)(z:Int)(had:Nat):Xa x z had []=⟨x.k,z,x.b0,x.b1,x.b2,x.b3⟩:=by
 unfold Xa QHQ
 simp[Q0]
theorem QMl{x:Ino}{z:Int}{had i:Nat}{fr:List Int}{v:Int}(h:had+i<4)(hv:fr[i]? =some v):
  ((Za (Xa x z had (fr.take i))).map AV.d).take (2+(had+i))++[AV.d (.it .i64 v)]++((Za (Xa x z had (fr.take i))).map AV.d).drop (2+(had+i)+1)=(Za (Xa x z had (fr.take (i+1)))).map AV.d:=by
 rw[Qo hv]
 have hl:(fr.take i).length=i:=by
  have:=(z6.1 hv).1
  rw[z1];omega
 generalize fr.take i=l at*
 subst hl
 have c:had=0∨had=1∨had=2∨had=3:=by omega
 rcases c with rfl|rfl|rfl|rfl
 all_goals
  rcases l with _|⟨a,_|⟨b,_|⟨c,_|⟨d,l⟩⟩⟩⟩
  all_goals first|rfl|(exfalso;simp only[yq,xo]at h;omega)
def rwA(bad:List Int)(d:Dk)(T:Nat→Nat)(E:D)(n:Int)(x:Ino)(off:Int)(c:List UInt8)(had:Nat)(fr:List Int):Nat×Ino→S|(i,y)=>⟨[(0,.ptr 0 0),(2,.d (.it .i64 off)),(3,.d (.fs 1 (QD c))),(9,.d E),(10,.d (.it .i64 n)),(11,.ptr 4 0),(13,.ptr 6 0),(14,.d (.it .i64 (had:Nat))),(15,.d (.fs 1 (vI fr))),(17,.d (.it .i64 (i:Nat)))],(4,.cells 6 [.d (.it .i64 x.k),.d (.it .i64 x.z),.d (.it .i64 x.b0),.d (.it .i64 x.b1),.d (.it .i64 x.b2),.d (.it .i64 x.b3)])::(6,.cells 6 [.d (.it .i64 y.k),.d (.it .i64 y.z),.d (.it .i64 y.b0),.d (.it .i64 y.b1),.d (.it .i64 y.b2),.d (.it .i64 y.b3)])::(Qp bad d++Qs 1 [0] T),8⟩
def rwB(bad:List Int)(d:Dk)(T:Nat→Nat)(E:D)(n:Int)(x y:Ino)(off:Int)(c:List UInt8)(had:Nat)(i:Nat)(W:List Wr):S:=⟨[(0,.ptr 0 0),(2,.d (.it .i64 off)),(3,.d (.fs 1 (QD c))),(9,.d E),(10,.d (.it .i64 n)),(11,.ptr 4 0),(13,.ptr 6 0),(14,.d (.it .i64 (had:Nat))),(18,.ts 36 (W.map Qn) 8),(19,.d (.it .i64 (i:Nat)))],(4,.cells 6 [.d (.it .i64 x.k),.d (.it .i64 x.z),.d (.it .i64 x.b0),.d (.it .i64 x.b1),.d (.it .i64 x.b2),.d (.it .i64 x.b3)])::(6,.cells 6 [.d (.it .i64 y.k),.d (.it .i64 y.z),.d (.it .i64 y.b0),.d (.it .i64 y.b1),.d (.it .i64 y.b2),.d (.it .i64 y.b3)])::(8,.tail 49 true)::(Qp bad d++Qs 1 [0] T),9⟩
def rwC(bad:List Int)(d:Dk)(T:Nat→Nat)(E:D)(n:Int)(x y:Ino)(off:Int)(c:List UInt8)(had:Nat)(i:Nat)(W:List Wr):Nat×(Nat→UInt8)→S|(j,g)=>⟨[(0,.ptr 0 0),(2,.d (.it .i64 off)),(3,.d (.fs 1 (QD c))),(9,.d E),(10,.d (.it .i64 n)),(11,.ptr 4 0),(13,.ptr 6 0),(14,.d (.it .i64 (had:Nat))),(18,.ts 36 (W.map Qn) 8),(19,.d (.it .i64 (i:Nat))),(20,.ptr 9 0),(21,.d (.bl (inJ off c.length i j))),(22,.d (.it .i64 (j:Nat)))],(4,.cells 6 [.d (.it .i64 x.k),.d (.it .i64 x.z),.d (.it .i64 x.b0),.d (.it .i64 x.b1),.d (.it .i64 x.b2),.d (.it .i64 x.b3)])::(6,.cells 6 [.d (.it .i64 y.k),.d (.it .i64 y.z),.d (.it .i64 y.b0),.d (.it .i64 y.b1),.d (.it .i64 y.b2),.d (.it .i64 y.b3)])::(8,.tail 49 true)::(9,.cells 32 ((QJ (Qx g)).map AV.d))::(Qp bad d++Qs 1 [0] T),10⟩
theorem QO7{y y':Ino}{C:List AV}{o q:Nat}{v:AV}{p:Nat}(hC:C=(Za y).map AV.d)(ho:o=p)(hq:q=p+1)(hs:((Za y).map AV.d).take p++[v]++((Za y).map AV.d).drop (p+1)=(Za y').map AV.d):C.take o++[v]++C.drop q=(Za y').map AV.d:=by rw[hC,ho,hq,hs]
theorem rwR{base:List UInt8}{k:Nat}{off:Int}{c:List UInt8}{j:Nat}{g:Nat→UInt8}(hg:Qx g=QAj base k off c j)(hj:j<32):
  (∃(_:0≤32*(k:Int)+(j:Int)-off) (_:32*(k:Int)+(j:Int)-off<(c.length:Int)) (v:UInt8) (g':Nat→UInt8),c[(32*(k:Int)+(j:Int)-off).toNat]? =some v∧((QJ (Qx g)).map AV.d).take j++[AV.d (.it .u8 v.toNat)]++((QJ (Qx g)).map AV.d).drop (j+1)=(QJ (Qx g')).map AV.d∧Qx g'=QAj base k off c (j+1)∧inJ off c.length k (j+1)=true)∨
  (¬(0≤32*(k:Int)+(j:Int)-off∧32*(k:Int)+(j:Int)-off<(c.length:Int))∧QAj base k off c j=QAj base k off c (j+1)∧inJ off c.length k j=inJ off c.length k (j+1)):=by
 have hin:=QMh off c.length k j
 by_cases h:off≤32*(k:Int)+(j:Int)∧32*(k:Int)+(j:Int)<off+(c.length:Int)
 ·obtain ⟨v,hv⟩:=Qy (l:=c) (k:=(32*(k:Int)+(j:Int)-off).toNat) (by omega)
  have hy:=QMg (base:=base) h hv
  rw[←hg]at hy
  obtain⟨g',hg'⟩:=Zg (YA base k off c (j+1))
  refine .inl ⟨by omega,by omega,v,g',hv,?_,hg'.symm,?_⟩
  ·rw [QLA (by show j<32;exact hj),←hy,hg']
  ·rw [hin,decide_eq_true h,W5]
 ·refine .inr ⟨by omega,(QO6 h).symm,?_⟩
  rw[hin,decide_eq_false h,qi]
theorem QMm{g g':Nat→UInt8}{C:List AV}{o q j:Nat}{v:AV}(hC:C=(QJ (Qx g)).map AV.d)(ho:o=j)(hq:q=j+1)(hs:((QJ (Qx g)).map AV.d).take j++[v]++((QJ (Qx g)).map AV.d).drop (j+1)=(QJ (Qx g')).map AV.d):C.take o++[v]++C.drop q=(QJ (Qx g')).map AV.d:=by rw[hC,ho,hq,hs]
def jI(base:List UInt8)(k:Nat)(off:Int)(c:List UInt8)(s:Nat×(Nat→UInt8)):Prop:=s.1≤32∧Qx s.2=QAj base k off c s.1
theorem tsW{a b:List (List D)}{n:Nat}(h:a=b):AV.ts 36 a n=AV.ts 36 b n:=by rw[h]
theorem QJ7{bad:List Int}{d:Dk}{N:Nat}(h:Fd bad d N)(p:List UInt8)(hp:p.length≤100000)(off:Int)(c:List UInt8)(hc:c.length≤1000):
  FnH Tryz.prog 34 [.ptr 0 0,.d (.st p),.d (.it .i64 off),.d (.fs 1 (QD c))] (Qp bad d) 1 [0] (.d (.it .i64 (runP bad d (J3 (imS (QT d)) p off c)).2)) (Qp bad (runP bad d (J3 (imS (QT d)) p off c)).1) 1:=by
 have hNw:=X8 bad d h.ok h.r
 have hm:=Jh h
 have hmn:(QT d).length=65:=(JO _ _).trans h.n
 have hP:=QBh (QT d) hm p hp
 have hn:=QA4 (imS (QT d)) p
 have hRI:=XO (imS (QT d)) p
 have hz:=QEo hRI
 have hBk:=fun k hk=>QPc (QT d) hm k hk
 have hbl:(QD c).length=c.length:=zb ..
 unfold J3 QEj
 replace hNw:FnH Tryz.prog 42 [.ptr 0 0] (Qp bad d) 1 [0] (.d (Q1 (QT d))) (Qp bad d) 1:=hNw
 generalize ZJ (imS (QT d)) p=q at*
 obtain⟨n,x,e⟩:=q
 dsimp only at*
 replace hP:FnC Tryz.prog 81 [.d (Q1 (QT d)),.d (.st p)] (.tup [.d (.it .i64 n),.dg 6 [.it .i64 x.k,.it .i64 x.z,.it .i64 x.b0,.it .i64 x.b1,.it .i64 x.b2,.it .i64 x.b3],.d (.it .i64 e)]):=hP
 by_cases c1:e=0
 ·subst c1
  rw[if_neg (by simp)]
  unfold QC6
  by_cases c2:off<0∨x.z<off
  ·rw [if_pos c2,Q2 (by decide)]
   generalize Q1 (QT d)=E at*
   refine QR i34 fun T=>?_
   (repeat' ((conv=>whnf);first|refine cEk hP ?_|refine CallE.inl ?_|refine cPk hP ?_|refine CallI.h hNw [0] ?_|((with_reducible refine QK ?_);first|refine QH QA mixed (by decide+kernel) ?_|refine QF QA mixed 0 (by decide+kernel) ?_)|refine QB ?_|intro x hx hu|intro h|refine Spp.mk ?_ ?_))
   all_goals first|(exfalso;omega)|skip
   all_goals exact QS
  ·rw [if_neg c2]
   by_cases c3:128-off<(c.length:Int)
   ·rw [if_pos c3,Q2 (by decide)]
    rw[←hbl]at c3
    generalize Q1 (QT d)=E at*
    refine QR i34 fun T=>?_
    (repeat' ((conv=>whnf);first|refine cEk hP ?_|refine CallE.inl ?_|refine cPk hP ?_|refine CallI.h hNw [0] ?_|((with_reducible refine QK ?_);first|refine QH QA mixed (by decide+kernel) ?_|refine QF QA mixed 0 (by decide+kernel) ?_)|refine QB ?_|intro x hx hu|intro h|refine Spp.mk ?_ ?_))
    all_goals first|(exfalso;omega)|skip
    all_goals exact QS
   ·rw [if_neg c3]
    rw[←hbl]at c3⊢
    have hn1:=Ja x.z (by omega) (by omega)
    have hn2:=Ja (max x.z (off+(QD c).length)) (by omega) (by omega)
    obtain⟨had,hhad⟩:∃had,nd x.z=had:=⟨_,rfl⟩
    obtain⟨nw,hnw⟩:∃nw,nd (max x.z (off+(QD c).length))-nd x.z=nw:=⟨_,rfl⟩
    have hnd:(nd (max x.z (off+(QD c).length)):Int)=(max x.z (off+(QD c).length)+31)/32:=by unfold nd;omega
    have hh:(x.z+31)/32=(had:Int):=by rw[←hhad];unfold nd;omega
    have hw:(max x.z (off+(QD c).length)+31)/32=(had:Int)+(nw:Int):=by rw[←hnw,←hhad];unfold nd;omega
    rw[hh]at hn1
    rw[hw]at hn2
    have h4:had+nw≤4:=by omega
    have hB:=hBk nw (by omega)
    rw[hnw,hhad]
    have hvl:=QM9 (frB (imS (QT d)) nw)
    unfold frV at hB
    have hfr:∀j∈frB (imS (QT d)) nw,1≤j∧j≤24:=fun j hj=>QDN hj
    generalize frB (imS (QT d)) nw=fr at*
    by_cases c4:fr.length≠nw
    ·rw [if_pos c4,Q2 (by decide)]
     rw[if_neg c4]at hB
     generalize Q1 (QT d)=E at*
     refine QR i34 fun T=>?_
     (repeat' ((conv=>whnf);first|refine cEk hP ?_|refine cEk hn1 ?_|refine cEk hn2 ?_|refine cEk hB ?_|refine CallE.inl ?_|refine cPk hP ?_|refine cPk hn1 ?_|refine cPk hn2 ?_|refine cPk hB ?_|refine CallI.h hNw [0] ?_|((with_reducible refine QK ?_);first|refine QH QA mixed (by decide+kernel) ?_|refine QF QA mixed 0 (by decide+kernel) ?_)|with_reducible refine Qj.eq ((nw:Nat):Int) (QKI (by omega)) ?_|with_reducible refine Qj.eq (max x.z (off+(QD c).length)) QDP ?_|refine QB ?_|intro x hx hu|intro h|refine Spp.mk ?_ ?_))
     all_goals first|(exfalso;omega)|skip
     all_goals exact QS
    ·rw [if_neg c4,Z0]
     rw[if_pos (by omega)]at hB
     have hfl:fr.length=nw:=by omega
     have hyb:=fun i=>QGJ hRI hfr (max x.z (off+(QD c).length)) (had:=had) i
     have hyo:= @QMj x (max x.z (off+(QD c).length)) had fr
     have hps:=fun i v=> @QMl x (max x.z (off+(QD c).length)) had i fr v
     have hp0:=QMk x (max x.z (off+(QD c).length)) had
     obtain⟨R,hR⟩:∃R,Qt bad d (Z9 (imS (QT d)) n x (Xa x (max x.z (off+(QD c).length)) had fr) had off c 4++if Xa x (max x.z (off+(QD c).length)) had fr=x then []else [.wr ⟨1+n,Zz (Xa x (max x.z (off+(QD c).length)) had fr),2,n,0⟩])=R:=⟨_,rfl⟩
     rw[hR]
     have hym:∀i,i<fr.length+1→∃y,y=Xa x (max x.z (off+(QD c).length)) had (fr.take i):=fun i _=>⟨_,rfl⟩
     refine QR i34 fun T=>?_
     (repeat' ((conv=>whnf);first|refine cEk hP ?_|refine cEk hn1 ?_|refine cEk hn2 ?_|refine cEk hB ?_|refine CallE.inl ?_|refine cPk hP ?_|refine cPk hn1 ?_|refine cPk hn2 ?_|refine cPk hB ?_|refine CallI.h hNw [0] ?_|((with_reducible refine QK ?_);first|refine QH QA mixed (by decide+kernel) ?_|refine QF QA mixed 0 (by decide+kernel) ?_)|with_reducible refine Qj.eq ((nw:Nat):Int) (QKI (by omega)) ?_|with_reducible refine Qj.eq (max x.z (off+(QD c).length)) QDP ?_|refine QB ?_|intro x hx hu|intro h|refine Spp.mk ?_ ?_))
     all_goals first|(exfalso;omega)|skip
     conv=>whnf
     refine ZB QA (fun s:Nat×Ino=>s.1≤nw∧s.2=Xa x (max x.z (off+(QD c).length)) had (fr.take s.1)) (rwA bad d T (Q1 (QT d)) n x off c had fr) (fun s=>nw-s.1) (0,⟨x.k,max x.z (off+(QD c).length),x.b0,x.b1,x.b2,x.b3⟩) ⟨z7 _,hp0.symm⟩ Wk.e ?_
     intro⟨i,y⟩ hi0
     have hi1:=hi0.1
     have hy:=hi0.2
     dsimp only at hi1 hy
     by_cases hil:i<nw
     ·obtain ⟨v,hv⟩:=Qy (l:=fr) (k:=i) (by omega)
      have hset:=hps i v (by omega) hv
      rw[←hy]at hset
      have hvv:(vI fr)[i]? =some [.it .i64 v]:=by unfold vI;rw[yr,hv];rfl
      (repeat' ((conv=>whnf);first|with_reducible refine QAd hvv ?_|refine QB ?_|intro x hx hu|intro h|refine Spp.mk ?_ ?_))
      all_goals first|(exfalso;omega)|skip
      exact⟨(i+1,Xa x (max x.z (off+(QD c).length)) had (fr.take (i+1))),⟨hil,rfl⟩,by first|omega|(dsimp only;omega),Wk.en ⟨ai rfl (ai rfl (ai rfl (ai rfl (ai rfl (ai rfl (ai rfl (ai rfl (ai rfl (ai (QQ (by omega)) trivial))))))))),ai rfl (ai (by (conv=>whnf);exact Qi rfl (QO7 (y:=y) rfl (by show 0+2+(((had:Nat):Int)+((i:Nat):Int)).toNat*1=_;omega) (by show 0+2+(((had:Nat):Int)+((i:Nat):Int)).toNat*1+1=_;omega) hset)) (ai rfl (ai rfl (ai rfl trivial)))),rfl⟩⟩
     ·have hi:i=nw:=by omega
      rw[hi,yb (by omega)]at hy
      replace hyb:∀i,0≤Q0 y i∧Q0 y i≤24:=fun i=>by rw[hy];exact hyb i
      replace hyo:∀i,i<had→i<4→Q0 y i=Q0 x i:=fun i h1 h2=>by rw[hy];exact hyo i h1 h2
      rw[←hy]at hR
      clear hps hp0 hym
      (repeat' ((conv=>whnf);first|refine QB ?_|intro x hx hu|intro h|refine Spp.mk ?_ ?_))
      all_goals first|(exfalso;omega)|skip
      conv=>whnf
      refine ZB QA (fun k:Nat=>k≤4) (fun k=>rwB bad d T (Q1 (QT d)) n x y off c had k (dwK (imS (QT d)) n x y had off c k)) (fun k=>4-k) 0 (z7 _) Wk.e ?_
      intro k hk
      by_cases hk4:k<4
      ·have hyk:=hyb k
       have hwl:= @QJ6 (imS (QT d)) n x y had off c k
       have hwm:((dwK (imS (QT d)) n x y had off c k).map Qn).length≤k:=by rw[zb];exact hwl
       have hsu:=QMi (imS (QT d)) n x y had off c k
       unfold dW at hsu
       obtain⟨base,hbase⟩:∃base,(if k<had then imS (QT d) (40+Q0 x k)else Qh)=base:=⟨_,rfl⟩
       rw[hbase]at hsu
       obtain⟨kn,hkn⟩:∃kn,kn=k+1:=⟨_,rfl⟩
       rw[←hkn,show(40:Int)+Q0 y k=41+Q0 y k-1 by omega]at hsu
       have h32:=QQu off c.length k
       generalize QAy off c.length k=tb at hsu h32
       have hb32:base.length=32:=by rw[←hbase];split;exact QBX hm _;rfl
       obtain⟨g0,hg0⟩:=Zg hb32
       generalize hW:dwK (imS (QT d)) n x y had off c k=W at*
       by_cases hkh:k<had
       ·rw [if_pos hkh,←hyo k hkh hk4]at hbase
        obtain⟨sq,hs⟩:=Qy (l:=QT d) (k:=(41+Q0 y k-1).toNat) (by omega)
        have hsb:sq=Qx g0:=by
         rw[←hg0,←hbase]
         unfold imS
         rw[zk,show(40+Q0 y k).toNat=(41+Q0 y k-1).toNat by omega,hs];rfl
        rw[hsb]at hs
        have hJ0:jI base k off c (0,g0):=⟨z7 _,by rw[QMf hb32];exact hg0.symm⟩
        have hc4:k=0∨k=1∨k=2∨k=3:=by omega
        rcases hc4 with rfl|rfl|rfl|rfl
        all_goals (
         simp only[Q0]at hyk hsu hs
         (repeat' ((conv=>whnf);first|((with_reducible refine ZC ?_);refine AtA.mk' ?_)|with_reducible refine QF7 hs ?_|refine QB ?_|intro x hx hu|intro h|refine Spp.mk ?_ ?_))
         all_goals first|(exfalso;omega)|skip
         conv=>whnf
         refine ZB QA (jI base _ off c) (rwC bad d T (Q1 (QT d)) n x y off c had _ W) (fun s=>32-s.1) (0,g0) hJ0 (Wk.en ⟨ai rfl (ai rfl (ai rfl (ai rfl (ai rfl (ai rfl (ai rfl (ai rfl (ai rfl (ai (QQ rfl) (ai rfl (ai (ZL rfl) (ai rfl trivial)))))))))))),(ai rfl (ai rfl (ai rfl (ai rfl (ai rfl (ai rfl (ai rfl trivial))))))),rfl⟩) ?_
         intro⟨j,g⟩ hj0
         have hj:=hj0.1
         have hg:=hj0.2
         dsimp only at hj hg
         by_cases hj32:j<32
         ·rcases rwR hg hj32 with⟨hc1,hc2,v,g',hv,hs,hJ,hI⟩|⟨hc1,hJ,hI⟩
          ·(repeat' ((conv=>whnf);first|with_reducible refine QF7 hv ?_|refine QB ?_|intro x hx hu|intro h|refine Spp.mk ?_ ?_))
           all_goals first|(exfalso;omega)|skip
           exact⟨(j+1,g'),⟨hj32,hJ⟩,by first|omega|(dsimp only;omega),Wk.en ⟨ai rfl (ai rfl (ai rfl (ai rfl (ai rfl (ai rfl (ai rfl (ai rfl (ai rfl (ai rfl (ai rfl (ai (ZL hI.symm) (ai (QQ (by omega)) trivial)))))))))))),ai rfl (ai rfl (ai rfl (ai (by (conv=>whnf);exact Qi rfl (QMm (g:=g) rfl (by show 0+((j:Nat):Int).toNat*1=_;omega) (by show 0+((j:Nat):Int).toNat*1+1=_;omega) hs)) (ai rfl (ai rfl (ai rfl trivial)))))),rfl⟩⟩
          ·(repeat' ((conv=>whnf);first|refine QB ?_|intro x hx hu|intro h|refine Spp.mk ?_ ?_))
           all_goals first|(exfalso;omega)|skip
           all_goals exact⟨(j+1,g),⟨hj32,hg.trans hJ⟩,by first|omega|(dsimp only;omega),Wk.en ⟨ai rfl (ai rfl (ai rfl (ai rfl (ai rfl (ai rfl (ai rfl (ai rfl (ai rfl (ai rfl (ai rfl (ai (ZL hI) (ai (QQ (by omega)) trivial)))))))))))),(ai rfl (ai rfl (ai rfl (ai rfl (ai rfl (ai rfl (ai rfl trivial))))))),rfl⟩⟩
         ·have hj:j=32:=by omega
          subst hj
          rw[QJ5]at hg
          rw[←hg]at hsu
          cases tb with
          |true=>
           rw[if_pos rfl]at hsu
           (repeat' ((conv=>whnf);first|with_reducible refine Spl.yes h32 ?_|((with_reducible refine ZC ?_);first|refine AtA.eq (Js (s:=Qx g) rfl rfl rfl rfl) ?_|refine AtA.mk' ?_)|refine QB ?_|intro x hx hu|intro h|refine Spp.mk ?_ ?_))
           all_goals first|(exfalso;omega)|skip
           exact⟨kn,by omega,by first|omega|(dsimp only;omega),Wk.en ⟨ai rfl (ai rfl (ai rfl (ai rfl (ai rfl (ai rfl (ai rfl (ai rfl (ai (tsW (by rw[hsu,yc];rfl)) (ai (QQ (by omega)) trivial))))))))),(ai rfl (ai rfl (ai rfl (ai rfl (ai rfl (ai rfl trivial)))))),rfl⟩⟩
          |false=>
           rw[if_neg (by simp),xf]at hsu
           (repeat' ((conv=>whnf);first|with_reducible refine Spl.no h32 ?_|refine QB ?_|intro x hx hu|intro h|refine Spp.mk ?_ ?_))
           all_goals first|(exfalso;omega)|skip
           exact⟨kn,by omega,by first|omega|(dsimp only;omega),Wk.en ⟨ai rfl (ai rfl (ai rfl (ai rfl (ai rfl (ai rfl (ai rfl (ai rfl (ai (tsW (by rw[hsu])) (ai (QQ (by omega)) trivial))))))))),(ai rfl (ai rfl (ai rfl (ai rfl (ai rfl (ai rfl trivial)))))),rfl⟩⟩)
       ·rw [if_neg hkh]at hbase
        have hJ0:jI base k off c (0,fun _=>0):=⟨z7 _,by rw[QMf hb32];exact(show Qx (fun _=>0)=Qh from rfl).trans hbase⟩
        have hc4:k=0∨k=1∨k=2∨k=3:=by omega
        rcases hc4 with rfl|rfl|rfl|rfl
        all_goals (
         simp only[Q0]at hyk hsu
         (repeat' ((conv=>whnf);first|((with_reducible refine ZC ?_);refine AtA.mk' ?_)|refine QB ?_|intro x hx hu|intro h|refine Spp.mk ?_ ?_))
         all_goals first|(exfalso;omega)|skip
         conv=>whnf
         refine ZB QA (jI base _ off c) (rwC bad d T (Q1 (QT d)) n x y off c had _ W) (fun s=>32-s.1) (0,fun _=>0) hJ0 (Wk.en ⟨ai rfl (ai rfl (ai rfl (ai rfl (ai rfl (ai rfl (ai rfl (ai rfl (ai rfl (ai (QQ rfl) (ai rfl (ai (ZL rfl) (ai rfl trivial)))))))))))),(ai rfl (ai rfl (ai rfl (ai rfl (ai rfl (ai rfl (ai rfl trivial))))))),rfl⟩) ?_
         intro⟨j,g⟩ hj0
         have hj:=hj0.1
         have hg:=hj0.2
         dsimp only at hj hg
         by_cases hj32:j<32
         ·rcases rwR hg hj32 with⟨hc1,hc2,v,g',hv,hs,hJ,hI⟩|⟨hc1,hJ,hI⟩
          ·(repeat' ((conv=>whnf);first|with_reducible refine QF7 hv ?_|refine QB ?_|intro x hx hu|intro h|refine Spp.mk ?_ ?_))
           all_goals first|(exfalso;omega)|skip
           exact⟨(j+1,g'),⟨hj32,hJ⟩,by first|omega|(dsimp only;omega),Wk.en ⟨ai rfl (ai rfl (ai rfl (ai rfl (ai rfl (ai rfl (ai rfl (ai rfl (ai rfl (ai rfl (ai rfl (ai (ZL hI.symm) (ai (QQ (by omega)) trivial)))))))))))),ai rfl (ai rfl (ai rfl (ai (by (conv=>whnf);exact Qi rfl (QMm (g:=g) rfl (by show 0+((j:Nat):Int).toNat*1=_;omega) (by show 0+((j:Nat):Int).toNat*1+1=_;omega) hs)) (ai rfl (ai rfl (ai rfl trivial)))))),rfl⟩⟩
          ·(repeat' ((conv=>whnf);first|refine QB ?_|intro x hx hu|intro h|refine Spp.mk ?_ ?_))
           all_goals first|(exfalso;omega)|skip
           all_goals exact⟨(j+1,g),⟨hj32,hg.trans hJ⟩,by first|omega|(dsimp only;omega),Wk.en ⟨ai rfl (ai rfl (ai rfl (ai rfl (ai rfl (ai rfl (ai rfl (ai rfl (ai rfl (ai rfl (ai rfl (ai (ZL hI) (ai (QQ (by omega)) trivial)))))))))))),(ai rfl (ai rfl (ai rfl (ai rfl (ai rfl (ai rfl (ai rfl trivial))))))),rfl⟩⟩
         ·have hj:j=32:=by omega
          subst hj
          rw[QJ5]at hg
          rw[←hg]at hsu
          cases tb with
          |true=>
           rw[if_pos rfl]at hsu
           (repeat' ((conv=>whnf);first|with_reducible refine Spl.yes h32 ?_|((with_reducible refine ZC ?_);first|refine AtA.eq (Js (s:=Qx g) rfl rfl rfl rfl) ?_|refine AtA.mk' ?_)|refine QB ?_|intro x hx hu|intro h|refine Spp.mk ?_ ?_))
           all_goals first|(exfalso;omega)|skip
           exact⟨kn,by omega,by first|omega|(dsimp only;omega),Wk.en ⟨ai rfl (ai rfl (ai rfl (ai rfl (ai rfl (ai rfl (ai rfl (ai rfl (ai (tsW (by rw[hsu,yc];rfl)) (ai (QQ (by omega)) trivial))))))))),(ai rfl (ai rfl (ai rfl (ai rfl (ai rfl (ai rfl trivial)))))),rfl⟩⟩
          |false=>
           rw[if_neg (by simp),xf]at hsu
           (repeat' ((conv=>whnf);first|with_reducible refine Spl.no h32 ?_|refine QB ?_|intro x hx hu|intro h|refine Spp.mk ?_ ?_))
           all_goals first|(exfalso;omega)|skip
           exact⟨kn,by omega,by first|omega|(dsimp only;omega),Wk.en ⟨ai rfl (ai rfl (ai rfl (ai rfl (ai rfl (ai rfl (ai rfl (ai rfl (ai (tsW (by rw[hsu])) (ai (QQ (by omega)) trivial))))))))),(ai rfl (ai rfl (ai rfl (ai rfl (ai rfl (ai rfl trivial)))))),rfl⟩⟩)
      ·have hk4':k=4:=by omega
       subst hk4'
       have hdw:= @QQv (imS (QT d)) n x y had off c 4 hyb
       have hdl:= @QJ6 (imS (QT d)) n x y had off c 4
       rw[←QF9]at hR
       have hdm:((dwK (imS (QT d)) n x y had off c 4).map Qn).length≤4:=by rw[zb];exact hdl
       generalize dwK (imS (QT d)) n x y had off c 4=W at*
       by_cases hyx:y=x
       ·rw [if_pos hyx,xf]at hR
        have g3:=YP h W hdw (by omega)
        rw[hR]at g3
        have hE:=(QGM (x:=x) (y:=y)).trans (decide_eq_true hyx)
        (repeat' ((conv=>whnf);first|with_reducible refine Spl.nt ?_|with_reducible refine Spl.yes hE ?_|refine CallE.inl ?_|refine CallI.hp g3 [0] ?_|refine QB ?_|intro x hx hu|intro h|refine Spp.mk ?_ ?_))
        all_goals first|(exfalso;omega)|skip
        exact QS
       ·rw [if_neg hyx]at hR
        have g1:=QD2 n (by omega) y 2 n
        have g3:=YP h (W++[⟨1+n,Zz y,2,n,0⟩]) (fun s hs=>by
         rcases yd.1 hs with hs|hs
         ·exact hdw s hs
         ·rw [yy.1 hs];exact QD1 n hn _ _ _) (by rw[zj,xd];omega)
        rw[yc,yc]at g3
        replace g3:FnH Tryz.prog 79 [.ptr 0 0,.d (.fs 36 (W.map Qn++[Qn ⟨1+n,Zz y,2,n,0⟩]))] (Qp bad d) 1 [0] (.d (.it .i64 (Qt bad d (W.map Stp.wr++[.wr ⟨1+n,Zz y,2,n,0⟩])).2)) (Qp bad (Qt bad d (W.map Stp.wr++[.wr ⟨1+n,Zz y,2,n,0⟩])).1) 1:=g3
        rw[hR]at g3
        obtain⟨s2,e2⟩:=Zg (Xi y)
        rw[e2]at g1 g3
        have hE:=(QGM (x:=x) (y:=y)).trans (decide_eq_false hyx)
        (repeat' ((conv=>whnf);first|with_reducible refine Spl.nt ?_|with_reducible refine Spl.no hE ?_|refine cEk g1 ?_|refine CallE.inl ?_|refine cPk g1 ?_|refine CallI.hp g3 [0] ?_|((with_reducible refine QK ?_);first|refine QH QA mixed (by decide+kernel) ?_|refine QF QA mixed 0 (by decide+kernel) ?_)|refine QB ?_|intro x hx hu|intro h|refine Spp.mk ?_ ?_))
        all_goals first|(exfalso;omega)|skip
        exact QS
 ·rw [if_pos c1,Q2 c1]
  generalize Q1 (QT d)=E at*
  refine QR i34 fun T=>?_
  (repeat' ((conv=>whnf);first|refine cEk hP ?_|refine CallE.inl ?_|refine cPk hP ?_|refine CallI.h hNw [0] ?_|((with_reducible refine QK ?_);first|refine QH QA mixed (by decide+kernel) ?_|refine QF QA mixed 0 (by decide+kernel) ?_)|refine QB ?_|intro x hx hu|intro h|refine Spp.mk ?_ ?_))
  all_goals first|(exfalso;omega)|skip
  all_goals exact QS
theorem QO8{bad:List Int}{d:Dk}{N:Nat}(h:Fd bad d N)(p:List UInt8)(hp:p.length≤100000)(c:List UInt8)(hc:c.length≤1000):
  FnH Tryz.prog 35 [.ptr 0 0,.d (.st p),.d (.fs 1 (QD c))] (Qp bad d) 1 [0] (.d (.it .i64 (runP bad d (QCD (imS (QT d)) p c)).2)) (Qp bad (runP bad d (QCD (imS (QT d)) p c)).1) 1:=by
 have hNw:=X8 bad d h.ok h.r
 have hm:=Jh h
 have hP:=QBh (QT d) hm p hp
 have hW:=QJ7 h p hp (ZJ (imS (QT d)) p).2.1.z c hc
 unfold J3 at hW
 unfold QCD
 replace hNw:FnH Tryz.prog 42 [.ptr 0 0] (Qp bad d) 1 [0] (.d (Q1 (QT d))) (Qp bad d) 1:=hNw
 generalize hq:ZJ (imS (QT d)) p=q at*
 obtain⟨n,⟨k,z,b0,b1,b2,b3⟩,e⟩:=q
 dsimp only at*
 replace hP:FnC Tryz.prog 81 [.d (Q1 (QT d)),.d (.st p)] (.tup [.d (.it .i64 n),.dg 6 [.it .i64 k,.it .i64 z,.it .i64 b0,.it .i64 b1,.it .i64 b2,.it .i64 b3],.d (.it .i64 e)]):=hP
 generalize Q1 (QT d)=E at*
 by_cases c1:e=0
 ·subst c1
  generalize runP bad d (QEj (imS (QT d)) (n,⟨k,z,b0,b1,b2,b3⟩,0) z c)=R at*
  refine QR i35 fun T=>?_
  (repeat' ((conv=>whnf);first|refine cEk hP ?_|refine CallE.inl ?_|refine cPk hP ?_|refine CallI.h hNw [0] ?_|refine CallI.h hW [0] ?_|((with_reducible refine QK ?_);first|refine QH QA mixed (by decide+kernel) ?_|refine QF QA mixed 0 (by decide+kernel) ?_)|refine QB ?_|intro x hx hu|intro h|refine Spp.mk ?_ ?_))
  all_goals first|(exfalso;omega)|skip
  all_goals exact QS
 ·unfold QEj
  rw[if_pos c1,Q2 c1]
  refine QR i35 fun T=>?_
  (repeat' ((conv=>whnf);first|refine cEk hP ?_|refine CallE.inl ?_|refine cPk hP ?_|refine CallI.h hNw [0] ?_|((with_reducible refine QK ?_);first|refine QH QA mixed (by decide+kernel) ?_|refine QF QA mixed 0 (by decide+kernel) ?_)|refine QB ?_|intro x hx hu|intro h|refine Spp.mk ?_ ?_))
  all_goals first|(exfalso;omega)|skip
  all_goals exact QS
end Go.Proofs.YtikgcbioagmkkaaGreatDoor
