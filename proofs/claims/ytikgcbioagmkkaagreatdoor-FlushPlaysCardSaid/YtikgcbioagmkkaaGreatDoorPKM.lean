/- Contracts of the functions that the law reaches, and the law. Conditions: none. -/
import Derived.Test.YtikgcbioagmkkaaGreatDoorPKD
import Derived.Test.YtikgcbioagmkkaaGreatDoorPKK
set_option maxRecDepth 100000
set_option linter.all false
set_option maxHeartbeats 16000000
namespace Go.Proofs.YtikgcbioagmkkaaGreatDoor
open Go.Sy
def QA2(base:List UInt8)(i:Nat)(off:Int)(b:List UInt8)(j:Nat):List UInt8:=
 (List.range 32).map λt:Nat=>if t<j/\(off<=32*(i:Int)+(t:Int)/\32*(i:Int)+(t:Int)<off+(b.length:Int))then b.getD (32*(i:Int)+(t:Int)-off).toNat 0 else base.getD t 0
theorem YK(base:List UInt8)(i:Nat)(off:Int)(b:List UInt8)(j:Nat):(QA2 base i off b j).length=32:=by unfold QA2;rw[zb,xj]
variable {base b:List UInt8}
variable {i j o q N:Nat}
variable {off:Int}
theorem QAg{t:Nat}(h:t<(QA2 base i off b j).length):(QA2 base i off b j)[t]=if t<j/\(off<=32*(i:Int)+(t:Int)/\32*(i:Int)+(t:Int)<off+(b.length:Int))then b.getD (32*(i:Int)+(t:Int)-off).toNat 0 else base.getD t 0:=by simp only[QA2,z1,x5]
theorem QNt(hb:base.length=32)(i:Nat)(off:Int)(b:List UInt8):QA2 base i off b 0=base:=by
 refine vg (by rw[YK,hb]) λt h1 h2=>?_;rw[QAg,if_neg om,zr,zj h2];rfl
theorem QKo(base:List UInt8)(i:Nat)(off:Int)(b:List UInt8):QA2 base i off b 32=QEv base i off b:=by
 refine vg (by rw[YK,QAI]) λt h1 h2=>?_;rw[QAg];rw[YK]at h1;simp only[QEv,z1,x5];by_cases hc:off<=32*(i:Int)+(t:Int)/\32*(i:Int)+(t:Int)<off+(b.length:Int)
 ·rw [if_pos hc,if_pos ⟨h1,hc⟩]
 ·rw [if_neg hc,if_neg λh=>hc h.2]
theorem QP6(h:¬(off<=32*(i:Int)+(j:Int)/\32*(i:Int)+(j:Int)<off+(b.length:Int))):QA2 base i off b (j+1)=QA2 base i off b j:=by
 refine vg (by rw[YK,YK]) λt h1 h2=>?_;rw[QAg,QAg];by_cases hc:off<=32*(i:Int)+(t:Int)/\32*(i:Int)+(t:Int)<off+(b.length:Int)
 ·by_cases ht:t<j
  ·rw [if_pos ⟨by omega,hc⟩,if_pos ⟨ht,hc⟩]
  ·by_cases hj:t=j
   ·rw [hj]at hc;exact absurd hc h
   ·rw [if_neg om,if_neg om]
 ·rw [if_neg λh=>hc h.2,if_neg λh=>hc h.2]
variable {v:UInt8}
theorem QNu(h:off<=32*(i:Int)+(j:Int)/\32*(i:Int)+(j:Int)<off+(b.length:Int))(hv:b[(32*(i:Int)+(j:Int)-off).toNat]? =some v):QA2 base i off b (j+1)=(QA2 base i off b j).set j v:=by
 refine vg (by rw[v8,YK,YK]) λt h1 h2=>?_;rw[QAg,ub,QAg];by_cases hj:j=t
 ·subst hj;rw[if_pos ⟨by omega,h⟩,if_pos rfl,zr,hv];rfl
 ·rw [if_neg hj];by_cases hc:off<=32*(i:Int)+(t:Int)/\32*(i:Int)+(t:Int)<off+(b.length:Int)
  ·by_cases ht:t<j
   ·rw [if_pos ⟨by omega,hc⟩,if_pos ⟨ht,hc⟩]
   ·rw [if_neg om,if_neg om]
  ·rw [if_neg λh=>hc h.2,if_neg λh=>hc h.2]
def inJ(off:Int)(len i j:Nat):Bool:=(List.range j).any λt:Nat=>decide (off<=32*(i:Int)+(t:Int)/\32*(i:Int)+(t:Int)<off+(len:Int))
theorem QNv(off:Int)(len i j:Nat):inJ off len i (j+1)=(inJ off len i j||decide (off<=32*(i:Int)+(j:Int)/\32*(i:Int)+(j:Int)<off+(len:Int))):=by
 unfold inJ;rw[vp,ky];simp
theorem QRx(off:Int)(len i:Nat):inJ off len i 32=QBG off len i:=by
 unfold inJ QBG;rw[x8,decide_eq_true_eq,Wi];constructor
 ·rintro ⟨t,ht,h⟩;have ht:=xd.1 ht;have h:=of_decide_eq_true h;omega
 ·intro h;exact⟨(max off (32*(i:Int))-32*(i:Int)).toNat,xd.2 om,decide_eq_true om⟩
theorem QLy{l:List UInt8}(h:j<l.length):((QF l).map AV.d).take j++[AV.d (.it .u8 v.toNat)]++((QF l).map AV.d).drop (j+1)=(QF (l.set j v)).map AV.d:=by
 unfold QF;rw[ui,if_pos h];simp only[ye,uz,kv,w8,x4,jf]
def dW(f:Int->List UInt8)(n:Int)(x y:Ino)(had:Nat)(off:Int)(b:List UInt8)(i:Nat):Wr:=⟨40+ZR y i,QEv (if i<had then f (40+ZR x i)else Qs) i off b,1,n,0⟩
def dwK(f:Int->List UInt8)(n:Int)(x y:Ino)(had:Nat)(off:Int)(b:List UInt8)(k:Nat):List Wr:=((List.range k).filter (QBG off b.length)).map (dW f n x y had off b)
theorem QGb(f:Int->List UInt8)(n:Int)(x y:Ino)(had:Nat)(off:Int)(b:List UInt8)(k:Nat):(dwK f n x y had off b k).map Stp.wr=XF f n x y had off b k:=by
 unfold dwK XF;rw[kq];rfl
theorem QNw(f:Int->List UInt8)(n:Int)(x y:Ino)(had:Nat)(off:Int)(b:List UInt8)(k:Nat):dwK f n x y had off b (k+1)=dwK f n x y had off b k++if QBG off b.length k=true then [dW f n x y had off b k]else []:=by
 unfold dwK;rw[vp,vr,ye];congr 1;by_cases h:QBG off b.length k=true
 ·rw [if_pos h,Ws h];rfl
 ·rw [if_neg h,Wt h];rfl
theorem QRy{f:Int->List UInt8}{n:Int}{x y:Ino}{had:Nat}{off:Int}{b:List UInt8}{k:Nat}(hy:∀i,0<=ZR y i/\ZR y i<=24):∀w∈dwK f n x y had off b k,QEy (.wr w):=λw hw=>
 QGT (f:=f) (n:=n) (x:=x) (y:=y) (had:=had) (off:=off) (b:=b) (k:=k) hy _ (by rw[<-QGb];exact List.mem_map_of_mem hw)
theorem QKp{f:Int->List UInt8}{n:Int}{x y:Ino}{had:Nat}{off:Int}{b:List UInt8}{k:Nat}:(dwK f n x y had off b k).length<=k:=by
 have:=QBv (f:=f) (n:=n) (x:=x) (y:=y) (had:=had) (off:=off) (b:=b) (k:=k)
 rwa [<-QGb,zb]at this
theorem QNx{x:Ino}{z:Int}{had:Nat}{fr:List Int}(i:Nat)(h:i<had)(h4:i<4):ZR (Xe x z had fr) i=ZR x i:=by
 have c:i=0\/i=1\/i=2\/i=3:=by omega
 rcases c with rfl|rfl|rfl|rfl;all_goals exact if_neg om
theorem QNy(x:Ino)(z:Int)(had:Nat):Xe x z had []=⟨x.k,z,x.b0,x.b1,x.b2,x.b3⟩:=by
 unfold Xe QHb;simp[ZR]
theorem QNz{x:Ino}{z:Int}{had i:Nat}{fr:List Int}{v:Int}(h:had+i<4)(hv:fr[i]? =some v):
  ((Zn (Xe x z had (fr.take i))).map AV.d).take (2+(had+i))++[AV.d (.it .i64 v)]++((Zn (Xe x z had (fr.take i))).map AV.d).drop (2+(had+i)+1)=(Zn (Xe x z had (fr.take (i+1)))).map AV.d:=by
 rw[QW hv];have hl:(fr.take i).length=i:=by
  have:=(z6.1 hv).1;rw[zy];omega
 generalize fr.take i=l at*
 subst hl;have c:had=0\/had=1\/had=2\/had=3:=by omega
 rcases c with rfl|rfl|rfl|rfl;all_goals
  rcases l with _|⟨a,_|⟨b,_|⟨c,_|⟨d,l⟩⟩⟩⟩;all_goals first|rfl|(exfalso;simp only[yq,xv]at h;omega)
def rwA(bad:List Int)(d:Dk)(T:Nat->Nat)(E:D)(n:Int)(x:Ino)(off:Int)(c:List UInt8)(had:Nat)(fr:List Int):Nat×Ino->S|(i,y)=>⟨[(0,.ptr 0 0),(2,.d (.it .i64 off)),(3,.d (.fs 1 (QD c))),(9,.d E),(10,.d (.it .i64 n)),(11,.ptr 4 0),(13,.ptr 6 0),(14,.d (.it .i64 (had:Nat))),(15,.d (.fs 1 (vI fr))),(17,.d (.it .i64 (i:Nat)))],(4,.cells 6 [.d (.it .i64 x.k),.d (.it .i64 x.z),.d (.it .i64 x.b0),.d (.it .i64 x.b1),.d (.it .i64 x.b2),.d (.it .i64 x.b3)])::(6,.cells 6 [.d (.it .i64 y.k),.d (.it .i64 y.z),.d (.it .i64 y.b0),.d (.it .i64 y.b1),.d (.it .i64 y.b2),.d (.it .i64 y.b3)])::(Qp bad d++Qr 1 [0] T),8⟩
def rwB(bad:List Int)(d:Dk)(T:Nat->Nat)(E:D)(n:Int)(x y:Ino)(off:Int)(c:List UInt8)(had:Nat)(i:Nat)(W:List Wr):S:=⟨[(0,.ptr 0 0),(2,.d (.it .i64 off)),(3,.d (.fs 1 (QD c))),(9,.d E),(10,.d (.it .i64 n)),(11,.ptr 4 0),(13,.ptr 6 0),(14,.d (.it .i64 (had:Nat))),(18,.ts 36 (W.map QR) 8),(19,.d (.it .i64 (i:Nat)))],(4,.cells 6 [.d (.it .i64 x.k),.d (.it .i64 x.z),.d (.it .i64 x.b0),.d (.it .i64 x.b1),.d (.it .i64 x.b2),.d (.it .i64 x.b3)])::(6,.cells 6 [.d (.it .i64 y.k),.d (.it .i64 y.z),.d (.it .i64 y.b0),.d (.it .i64 y.b1),.d (.it .i64 y.b2),.d (.it .i64 y.b3)])::(8,.tail 49 true)::(Qp bad d++Qr 1 [0] T),9⟩
def rwC(bad:List Int)(d:Dk)(T:Nat->Nat)(E:D)(n:Int)(x y:Ino)(off:Int)(c:List UInt8)(had:Nat)(i:Nat)(W:List Wr):Nat×(Nat->UInt8)->S|(j,g)=>⟨[(0,.ptr 0 0),(2,.d (.it .i64 off)),(3,.d (.fs 1 (QD c))),(9,.d E),(10,.d (.it .i64 n)),(11,.ptr 4 0),(13,.ptr 6 0),(14,.d (.it .i64 (had:Nat))),(18,.ts 36 (W.map QR) 8),(19,.d (.it .i64 (i:Nat))),(20,.ptr 9 0),(21,.d (.bl (inJ off c.length i j))),(22,.d (.it .i64 (j:Nat)))],(4,.cells 6 [.d (.it .i64 x.k),.d (.it .i64 x.z),.d (.it .i64 x.b0),.d (.it .i64 x.b1),.d (.it .i64 x.b2),.d (.it .i64 x.b3)])::(6,.cells 6 [.d (.it .i64 y.k),.d (.it .i64 y.z),.d (.it .i64 y.b0),.d (.it .i64 y.b1),.d (.it .i64 y.b2),.d (.it .i64 y.b3)])::(8,.tail 49 true)::(9,.cells 32 ((QF (Qv g)).map AV.d))::(Qp bad d++Qr 1 [0] T),10⟩
variable {C:List AV}
theorem QP7{y y':Ino}{v:AV}{p:Nat}(hC:C=(Zn y).map AV.d)(ho:o=p)(hq:q=p+1)(hs:((Zn y).map AV.d).take p++[v]++((Zn y).map AV.d).drop (p+1)=(Zn y').map AV.d):C.take o++[v]++C.drop q=(Zn y').map AV.d:=by rw[hC,ho,hq,hs]
variable {g:Nat->UInt8}
theorem rwR{k:Nat}{c:List UInt8}(hg:Qv g=QA2 base k off c j)(hj:j<32):
  (∃(_:0<=32*(k:Int)+(j:Int)-off) (_:32*(k:Int)+(j:Int)-off<(c.length:Int)) (v:UInt8) (g':Nat->UInt8),c[(32*(k:Int)+(j:Int)-off).toNat]? =some v/\((QF (Qv g)).map AV.d).take j++[AV.d (.it .u8 v.toNat)]++((QF (Qv g)).map AV.d).drop (j+1)=(QF (Qv g')).map AV.d/\Qv g'=QA2 base k off c (j+1)/\inJ off c.length k (j+1)=true)\/
  (¬(0<=32*(k:Int)+(j:Int)-off/\32*(k:Int)+(j:Int)-off<(c.length:Int))/\QA2 base k off c j=QA2 base k off c (j+1)/\inJ off c.length k j=inJ off c.length k (j+1)):=by
 have hin:=QNv off c.length k j;by_cases h:off<=32*(k:Int)+(j:Int)/\32*(k:Int)+(j:Int)<off+(c.length:Int)
 ·obtain ⟨v,hv⟩:=Qo (l:=c) (k:=(32*(k:Int)+(j:Int)-off).toNat) om;have hy:=QNu (base:=base) h hv;rw[<-hg]at hy;obtain⟨g',hg'⟩:=ZO (YK base k off c (j+1));refine .inl ⟨by omega,by omega,v,g',hv,?_,hg'.symm,?_⟩
  ·rw [QLy (by show j<32;exact hj),<-hy,hg']
  ·rw [hin,decide_eq_true h,Vk]
 ·refine .inr ⟨by omega,(QP6 h).symm,?_⟩;rw[hin,decide_eq_false h,qd]
theorem QN0{g':Nat->UInt8}{v:AV}(hC:C=(QF (Qv g)).map AV.d)(ho:o=j)(hq:q=j+1)(hs:((QF (Qv g)).map AV.d).take j++[v]++((QF (Qv g)).map AV.d).drop (j+1)=(QF (Qv g')).map AV.d):C.take o++[v]++C.drop q=(QF (Qv g')).map AV.d:=by rw[hC,ho,hq,hs]
def jI(base:List UInt8)(k:Nat)(off:Int)(c:List UInt8)(s:Nat×(Nat->UInt8)):Prop:=s.1<=32/\Qv s.2=QA2 base k off c s.1
theorem tsW{a b:List (List D)}{n:Nat}(h:a=b):AV.ts 36 a n=AV.ts 36 b n:=by rw[h]
variable {bad:List Int}
variable {d:Dk}
theorem QKq(h:Fd bad d N)(p:List UInt8)(hp:p.length<=100000)(off:Int)(c:List UInt8)(hc:c.length<=1000):
  FnH Tryz.prog 34 [.ptr 0 0,.d (.st p),.d (.it .i64 off),.d (.fs 1 (QD c))] (Qp bad d) 1 [0] (.d (.it .i64 (runP bad d (QA0 (imS (QS d)) p off c)).2)) (Qp bad (runP bad d (QA0 (imS (QS d)) p off c)).1) 1:=by
 have hNw:=YI bad d h.ok h.r;have hm:=JO h;have hmn:(QS d).length=65:=(Z2 _ _).trans h.n;have hP:=QEK (QS d) hm p hp;have hn:=QBJ (imS (QS d)) p;have hRI:=JL (imS (QS d)) p;have hz:=QJG hRI;have hBk:=λk hk=>QP1 (QS d) hm k hk;have hbl:(QD c).length=c.length:=zb ..;unfold QA0 QEw;replace hNw:FnH Tryz.prog 42 [.ptr 0 0] (Qp bad d) 1 [0] (.d (Q9 (QS d))) (Qp bad d) 1:=hNw;generalize Xv (imS (QS d)) p=q at*
 obtain⟨n,x,e⟩:=q;dsimp only at*
 replace hP:FnC Tryz.prog 81 [.d (Q9 (QS d)),.d (.st p)] (.tup [.d (.it .i64 n),.dg 6 [.it .i64 x.k,.it .i64 x.z,.it .i64 x.b0,.it .i64 x.b1,.it .i64 x.b2,.it .i64 x.b3],.d (.it .i64 e)]):=hP;by_cases c1:e=0
 ·subst c1;rw[if_neg (by simp)];unfold QDH;by_cases c2:off<0\/x.z<off
  ·rw [if_pos c2,ZA (by decide)];generalize Q9 (QS d)=E at*
   refine QL i34 λT=>?_;(repeat' (conv=>whnf);first|refine cXk hP ?_|refine CallI.h hNw [0] ?_|refine gD ?_|refine gOI ?_|intro x hx hu|intro h|apply sS);all_goals try omega
   all_goals exact QH
  ·rw [if_neg c2];by_cases c3:128-off<(c.length:Int)
   ·rw [if_pos c3,ZA (by decide)];rw[<-hbl]at c3;generalize Q9 (QS d)=E at*
    refine QL i34 λT=>?_;(repeat' (conv=>whnf);first|refine cXk hP ?_|refine CallI.h hNw [0] ?_|refine gD ?_|refine gOI ?_|intro x hx hu|intro h|apply sS);all_goals try omega
    all_goals exact QH
   ·rw [if_neg c3];rw[<-hbl]at c3⊢;have hn1:=Jo x.z om om;have hn2:=Jo (max x.z (off+(QD c).length)) om om;obtain⟨had,hhad⟩:∃had,nd x.z=had:=⟨_,rfl⟩;obtain⟨nw,hnw⟩:∃nw,nd (max x.z (off+(QD c).length))-nd x.z=nw:=⟨_,rfl⟩;have hnd:(nd (max x.z (off+(QD c).length)):Int)=(max x.z (off+(QD c).length)+31)/32:=by unfold nd;omega
    have hh:(x.z+31)/32=(had:Int):=by rw[<-hhad];unfold nd;omega
    have hw:(max x.z (off+(QD c).length)+31)/32=(had:Int)+(nw:Int):=by rw[<-hnw,<-hhad];unfold nd;omega
    rw[hh]at hn1;rw[hw]at hn2;have h4:had+nw<=4:=by omega
    have hB:=hBk nw om;rw[hnw,hhad];have hvl:=QNP (frB (imS (QS d)) nw);unfold frV at hB;have hfr:∀j∈frB (imS (QS d)) nw,1<=j/\j<=24:=λj hj=>QDY hj;generalize frB (imS (QS d)) nw=fr at*
    by_cases c4:fr.length≠nw
    ·rw [if_pos c4,ZA (by decide)];rw[if_neg c4]at hB;generalize Q9 (QS d)=E at*
     refine QL i34 λT=>?_;(repeat' (conv=>whnf);first|refine cXk hP ?_|refine cXk hn1 ?_|refine cXk hn2 ?_|refine cXk hB ?_|refine CallI.h hNw [0] ?_|refine gD ?_|with_reducible refine Q0.eq ((nw:Nat):Int) (QKa om) ?_|with_reducible refine Q0.eq (max x.z (off+(QD c).length)) QDa ?_|refine gOI ?_|intro x hx hu|intro h|apply sS);all_goals try omega
     all_goals exact QH
    ·rw [if_neg c4,Z8];rw[if_pos om]at hB;have hfl:fr.length=nw:=by omega
     have hyb:=λi=>QGS hRI hfr (max x.z (off+(QD c).length)) (had:=had) i;have hyo:= @QNx x (max x.z (off+(QD c).length)) had fr;have hps:=λi v=> @QNz x (max x.z (off+(QD c).length)) had i fr v;have hp0:=QNy x (max x.z (off+(QD c).length)) had;obtain⟨R,hR⟩:∃R,Q4 bad d (XF (imS (QS d)) n x (Xe x (max x.z (off+(QD c).length)) had fr) had off c 4++if Xe x (max x.z (off+(QD c).length)) had fr=x then []else [.wr ⟨1+n,Z7 (Xe x (max x.z (off+(QD c).length)) had fr),2,n,0⟩])=R:=⟨_,rfl⟩;rw[hR];have hym:∀i,i<fr.length+1->∃y,y=Xe x (max x.z (off+(QD c).length)) had (fr.take i):=λi _=>⟨_,rfl⟩;refine QL i34 λT=>?_;(repeat' (conv=>whnf);first|refine cXk hP ?_|refine cXk hn1 ?_|refine cXk hn2 ?_|refine cXk hB ?_|refine CallI.h hNw [0] ?_|refine gD ?_|with_reducible refine Q0.eq ((nw:Nat):Int) (QKa om) ?_|with_reducible refine Q0.eq (max x.z (off+(QD c).length)) QDa ?_|refine gOI ?_|intro x hx hu|intro h|apply sS);all_goals try omega
     conv=>whnf
     refine Ql QB (λs:Nat×Ino=>s.1<=nw/\s.2=Xe x (max x.z (off+(QD c).length)) had (fr.take s.1)) (rwA bad d T (Q9 (QS d)) n x off c had fr) (λs=>nw-s.1) (0,⟨x.k,max x.z (off+(QD c).length),x.b0,x.b1,x.b2,x.b3⟩) ⟨z7 _,hp0.symm⟩ Wk.e ?_;intro⟨i,y⟩ hi0;have hi1:=hi0.1;have hy:=hi0.2;dsimp only at hi1 hy;by_cases hil:i<nw
     ·obtain ⟨v,hv⟩:=Qo (l:=fr) (k:=i) om;have hset:=hps i v om hv;rw[<-hy]at hset;have hvv:(vI fr)[i]? =some [.it .i64 v]:=by unfold vI;rw[yv,hv];rfl
      (repeat' (conv=>whnf);first|with_reducible refine Yk hvv ?_|refine QA ?_|intro x hx hu|intro h|apply sS);all_goals try omega
      exact⟨(i+1,Xe x (max x.z (off+(QD c).length)) had (fr.take (i+1))),⟨hil,rfl⟩,by first|omega|(dsimp only;omega),Wk.en ⟨ai rfl (ai rfl (ai rfl (ai rfl (ai rfl (ai rfl (ai rfl (ai rfl (ai rfl (ai (QK om) trivial))))))))),ai rfl (ai (by (conv=>whnf);exact Qt rfl (QP7 (y:=y) rfl (by show 0+2+(((had:Nat):Int)+((i:Nat):Int)).toNat*1=_;omega) (by show 0+2+(((had:Nat):Int)+((i:Nat):Int)).toNat*1+1=_;omega) hset)) rr),rfl⟩⟩
     ·have hi:i=nw:=by omega
      rw[hi,z8 om]at hy;replace hyb:∀i,0<=ZR y i/\ZR y i<=24:=λi=>by rw[hy];exact hyb i
      replace hyo:∀i,i<had->i<4->ZR y i=ZR x i:=λi h1 h2=>by rw[hy];exact hyo i h1 h2
      rw[<-hy]at hR;clear hps hp0 hym;(repeat' (conv=>whnf);first|refine QA ?_|intro x hx hu|intro h|apply sS);all_goals try omega
      conv=>whnf
      refine Ql QB (λk:Nat=>k<=4) (λk=>rwB bad d T (Q9 (QS d)) n x y off c had k (dwK (imS (QS d)) n x y had off c k)) (λk=>4-k) 0 (z7 _) Wk.e ?_;intro k hk;by_cases hk4:k<4
      ·have hyk:=hyb k;have hwl:= @QKp (imS (QS d)) n x y had off c k;have hwm:((dwK (imS (QS d)) n x y had off c k).map QR).length<=k:=by rw[zb];exact hwl
       have hsu:=QNw (imS (QS d)) n x y had off c k;unfold dW at hsu;obtain⟨base,hbase⟩:∃base,(if k<had then imS (QS d) (40+ZR x k)else Qs)=base:=⟨_,rfl⟩;rw[hbase]at hsu;obtain⟨kn,hkn⟩:∃kn,kn=k+1:=⟨_,rfl⟩;rw[<-hkn,show(40:Int)+ZR y k=41+ZR y k-1 by omega]at hsu;have h32:=QRx off c.length k;generalize QBG off c.length k=tb at hsu h32;have hb32:base.length=32:=by rw[<-hbase];split;exact QDR hm _;rfl
       obtain⟨g0,hg0⟩:=ZO hb32;generalize hW:dwK (imS (QS d)) n x y had off c k=W at*
       by_cases hkh:k<had
       ·rw [if_pos hkh,<-hyo k hkh hk4]at hbase;obtain⟨sq,hs⟩:=Qo (l:=QS d) (k:=(41+ZR y k-1).toNat) om;have hsb:sq=Qv g0:=by
         rw[<-hg0,<-hbase];unfold imS;rw[zr,show(40+ZR y k).toNat=(41+ZR y k-1).toNat by omega,hs];rfl
        rw[hsb]at hs;have hJ0:jI base k off c (0,g0):=⟨z7 _,by rw[QNt hb32];exact hg0.symm⟩;have hc4:k=0\/k=1\/k=2\/k=3:=by omega
        rcases hc4 with rfl|rfl|rfl|rfl;all_goals (
         simp only[ZR]at hyk hsu hs;(repeat' (conv=>whnf);first|refine AtA.mk' ?_|with_reducible refine QI9 hs ?_|refine QA ?_|intro x hx hu|intro h|apply sS);all_goals try omega
         conv=>whnf
         refine Ql QB (jI base _ off c) (rwC bad d T (Q9 (QS d)) n x y off c had _ W) (λs=>32-s.1) (0,g0) hJ0 (Wk.en ⟨ai rfl (ai rfl (ai rfl (ai rfl (ai rfl (ai rfl (ai rfl (ai rfl (ai rfl (ai (QK rfl) (ai rfl (ai (ZW rfl) rr))))))))))),rr,rfl⟩) ?_;intro⟨j,g⟩ hj0;have hj:=hj0.1;have hg:=hj0.2;dsimp only at hj hg;by_cases hj32:j<32
         ·rcases rwR hg hj32 with⟨hc1,hc2,v,g',hv,hs,hJ,hI⟩|⟨hc1,hJ,hI⟩
          ·(repeat' (conv=>whnf);first|with_reducible refine QI9 hv ?_|refine QA ?_|intro x hx hu|intro h|apply sS);all_goals try omega
           exact⟨(j+1,g'),⟨hj32,hJ⟩,by first|omega|(dsimp only;omega),Wk.en ⟨ai rfl (ai rfl (ai rfl (ai rfl (ai rfl (ai rfl (ai rfl (ai rfl (ai rfl (ai rfl (ai rfl (ai (ZW hI.symm) (ai (QK om) trivial)))))))))))),ai rfl (ai rfl (ai rfl (ai (by (conv=>whnf);exact Qt rfl (QN0 (g:=g) rfl (by show 0+((j:Nat):Int).toNat*1=_;omega) (by show 0+((j:Nat):Int).toNat*1+1=_;omega) hs)) rr))),rfl⟩⟩
          ·(repeat' (conv=>whnf);first|refine QA ?_|intro x hx hu|intro h|apply sS);all_goals try omega
           all_goals exact⟨(j+1,g),⟨hj32,hg.trans hJ⟩,by first|omega|(dsimp only;omega),Wk.en ⟨ai rfl (ai rfl (ai rfl (ai rfl (ai rfl (ai rfl (ai rfl (ai rfl (ai rfl (ai rfl (ai rfl (ai (ZW hI) (ai (QK om) trivial)))))))))))),rr,rfl⟩⟩
         ·have hj:j=32:=by omega
          subst hj;rw[QKo]at hg;rw[<-hg]at hsu;cases tb with
          |true=>
           rw[if_pos rfl]at hsu;(repeat' (conv=>whnf);first|with_reducible refine Spl.yes h32 ?_|refine AtA.eq (J2 (s:=Qv g) rfl rfl rfl rfl) ?_|refine AtA.mk' ?_|refine QA ?_|intro x hx hu|intro h|apply sS);all_goals try omega
           exact⟨kn,by omega,by first|omega|(dsimp only;omega),Wk.en ⟨ai rfl (ai rfl (ai rfl (ai rfl (ai rfl (ai rfl (ai rfl (ai rfl (ai (tsW (by rw[hsu,ye];rfl)) (ai (QK om) trivial))))))))),rr,rfl⟩⟩
          |false=>
           rw[if_neg (by simp),y4]at hsu;(repeat' (conv=>whnf);first|with_reducible refine Spl.no h32 ?_|refine QA ?_|intro x hx hu|intro h|apply sS);all_goals try omega
           exact⟨kn,by omega,by first|omega|(dsimp only;omega),Wk.en ⟨ai rfl (ai rfl (ai rfl (ai rfl (ai rfl (ai rfl (ai rfl (ai rfl (ai (tsW (by rw[hsu])) (ai (QK om) trivial))))))))),rr,rfl⟩⟩)
       ·rw [if_neg hkh]at hbase;have hJ0:jI base k off c (0,λ_=>0):=⟨z7 _,by rw[QNt hb32];exact(show Qv (λ_=>0)=Qs from rfl).trans hbase⟩;have hc4:k=0\/k=1\/k=2\/k=3:=by omega
        rcases hc4 with rfl|rfl|rfl|rfl;all_goals (
         simp only[ZR]at hyk hsu;(repeat' (conv=>whnf);first|refine AtA.mk' ?_|refine QA ?_|intro x hx hu|intro h|apply sS);all_goals try omega
         conv=>whnf
         refine Ql QB (jI base _ off c) (rwC bad d T (Q9 (QS d)) n x y off c had _ W) (λs=>32-s.1) (0,λ_=>0) hJ0 (Wk.en ⟨ai rfl (ai rfl (ai rfl (ai rfl (ai rfl (ai rfl (ai rfl (ai rfl (ai rfl (ai (QK rfl) (ai rfl (ai (ZW rfl) rr))))))))))),rr,rfl⟩) ?_;intro⟨j,g⟩ hj0;have hj:=hj0.1;have hg:=hj0.2;dsimp only at hj hg;by_cases hj32:j<32
         ·rcases rwR hg hj32 with⟨hc1,hc2,v,g',hv,hs,hJ,hI⟩|⟨hc1,hJ,hI⟩
          ·(repeat' (conv=>whnf);first|with_reducible refine QI9 hv ?_|refine QA ?_|intro x hx hu|intro h|apply sS);all_goals try omega
           exact⟨(j+1,g'),⟨hj32,hJ⟩,by first|omega|(dsimp only;omega),Wk.en ⟨ai rfl (ai rfl (ai rfl (ai rfl (ai rfl (ai rfl (ai rfl (ai rfl (ai rfl (ai rfl (ai rfl (ai (ZW hI.symm) (ai (QK om) trivial)))))))))))),ai rfl (ai rfl (ai rfl (ai (by (conv=>whnf);exact Qt rfl (QN0 (g:=g) rfl (by show 0+((j:Nat):Int).toNat*1=_;omega) (by show 0+((j:Nat):Int).toNat*1+1=_;omega) hs)) rr))),rfl⟩⟩
          ·(repeat' (conv=>whnf);first|refine QA ?_|intro x hx hu|intro h|apply sS);all_goals try omega
           all_goals exact⟨(j+1,g),⟨hj32,hg.trans hJ⟩,by first|omega|(dsimp only;omega),Wk.en ⟨ai rfl (ai rfl (ai rfl (ai rfl (ai rfl (ai rfl (ai rfl (ai rfl (ai rfl (ai rfl (ai rfl (ai (ZW hI) (ai (QK om) trivial)))))))))))),rr,rfl⟩⟩
         ·have hj:j=32:=by omega
          subst hj;rw[QKo]at hg;rw[<-hg]at hsu;cases tb with
          |true=>
           rw[if_pos rfl]at hsu;(repeat' (conv=>whnf);first|with_reducible refine Spl.yes h32 ?_|refine AtA.eq (J2 (s:=Qv g) rfl rfl rfl rfl) ?_|refine AtA.mk' ?_|refine QA ?_|intro x hx hu|intro h|apply sS);all_goals try omega
           exact⟨kn,by omega,by first|omega|(dsimp only;omega),Wk.en ⟨ai rfl (ai rfl (ai rfl (ai rfl (ai rfl (ai rfl (ai rfl (ai rfl (ai (tsW (by rw[hsu,ye];rfl)) (ai (QK om) trivial))))))))),rr,rfl⟩⟩
          |false=>
           rw[if_neg (by simp),y4]at hsu;(repeat' (conv=>whnf);first|with_reducible refine Spl.no h32 ?_|refine QA ?_|intro x hx hu|intro h|apply sS);all_goals try omega
           exact⟨kn,by omega,by first|omega|(dsimp only;omega),Wk.en ⟨ai rfl (ai rfl (ai rfl (ai rfl (ai rfl (ai rfl (ai rfl (ai rfl (ai (tsW (by rw[hsu])) (ai (QK om) trivial))))))))),rr,rfl⟩⟩)
      ·have hk4':k=4:=by omega
       subst hk4';have hdw:= @QRy (imS (QS d)) n x y had off c 4 hyb;have hdl:= @QKp (imS (QS d)) n x y had off c 4;rw[<-QGb]at hR;have hdm:((dwK (imS (QS d)) n x y had off c 4).map QR).length<=4:=by rw[zb];exact hdl
       generalize dwK (imS (QS d)) n x y had off c 4=W at*
       by_cases hyx:y=x
       ·rw [if_pos hyx,y4]at hR;have g3:=YY h W hdw om;rw[hR]at g3;have hE:=(QGV (x:=x) (y:=y)).trans (decide_eq_true hyx);(repeat' (conv=>whnf);first|with_reducible refine Spl.nt ?_|with_reducible refine Spl.yes hE ?_|refine CallI.hp g3 [0] ?_|refine gOI ?_|intro x hx hu|intro h|apply sS);all_goals try omega
        exact QH
       ·rw [if_neg hyx]at hR;have g1:=QEI n om y 2 n;have g3:=YY h (W++[⟨1+n,Z7 y,2,n,0⟩]) (λs hs=>by
         rcases yd.1 hs with hs|hs
         ·exact hdw s hs
         ·rw [yr.1 hs];exact QED n hn _ _ _) (by rw[zu,xc];omega)
        rw[ye,ye]at g3;replace g3:FnH Tryz.prog 79 [.ptr 0 0,.d (.fs 36 (W.map QR++[QR ⟨1+n,Z7 y,2,n,0⟩]))] (Qp bad d) 1 [0] (.d (.it .i64 (Q4 bad d (W.map Stp.wr++[.wr ⟨1+n,Z7 y,2,n,0⟩])).2)) (Qp bad (Q4 bad d (W.map Stp.wr++[.wr ⟨1+n,Z7 y,2,n,0⟩])).1) 1:=g3;rw[hR]at g3;obtain⟨s2,e2⟩:=ZO (Xl y);rw[e2]at g1 g3;have hE:=(QGV (x:=x) (y:=y)).trans (decide_eq_false hyx);(repeat' (conv=>whnf);first|with_reducible refine Spl.nt ?_|with_reducible refine Spl.no hE ?_|refine cXk g1 ?_|refine CallI.hp g3 [0] ?_|refine gD ?_|refine gOI ?_|intro x hx hu|intro h|apply sS);all_goals try omega
        exact QH
 ·rw [if_pos c1,ZA c1];generalize Q9 (QS d)=E at*
  refine QL i34 λT=>?_;(repeat' (conv=>whnf);first|refine cXk hP ?_|refine CallI.h hNw [0] ?_|refine gD ?_|refine gOI ?_|intro x hx hu|intro h|apply sS);all_goals try omega
  all_goals exact QH
theorem QP8(h:Fd bad d N)(p:List UInt8)(hp:p.length<=100000)(c:List UInt8)(hc:c.length<=1000):
  FnH Tryz.prog 35 [.ptr 0 0,.d (.st p),.d (.fs 1 (QD c))] (Qp bad d) 1 [0] (.d (.it .i64 (runP bad d (QBH (imS (QS d)) p c)).2)) (Qp bad (runP bad d (QBH (imS (QS d)) p c)).1) 1:=by
 have hNw:=YI bad d h.ok h.r;have hm:=JO h;have hP:=QEK (QS d) hm p hp;have hW:=QKq h p hp (Xv (imS (QS d)) p).2.1.z c hc;unfold QA0 at hW;unfold QBH;replace hNw:FnH Tryz.prog 42 [.ptr 0 0] (Qp bad d) 1 [0] (.d (Q9 (QS d))) (Qp bad d) 1:=hNw;generalize hq:Xv (imS (QS d)) p=q at*
 obtain⟨n,⟨k,z,b0,b1,b2,b3⟩,e⟩:=q;dsimp only at*
 replace hP:FnC Tryz.prog 81 [.d (Q9 (QS d)),.d (.st p)] (.tup [.d (.it .i64 n),.dg 6 [.it .i64 k,.it .i64 z,.it .i64 b0,.it .i64 b1,.it .i64 b2,.it .i64 b3],.d (.it .i64 e)]):=hP;generalize Q9 (QS d)=E at*
 by_cases c1:e=0
 ·subst c1;generalize runP bad d (QEw (imS (QS d)) (n,⟨k,z,b0,b1,b2,b3⟩,0) z c)=R at*
  refine QL i35 λT=>?_;(repeat' (conv=>whnf);first|refine cXk hP ?_|refine CallI.h hNw [0] ?_|refine CallI.h hW [0] ?_|refine gD ?_|refine gOI ?_|intro x hx hu|intro h|apply sS);all_goals try omega
  all_goals exact QH
 ·unfold QEw;rw[if_pos c1,ZA c1];refine QL i35 λT=>?_;(repeat' (conv=>whnf);first|refine cXk hP ?_|refine CallI.h hNw [0] ?_|refine gD ?_|refine gOI ?_|intro x hx hu|intro h|apply sS);all_goals try omega
  all_goals exact QH
end Go.Proofs.YtikgcbioagmkkaaGreatDoor
