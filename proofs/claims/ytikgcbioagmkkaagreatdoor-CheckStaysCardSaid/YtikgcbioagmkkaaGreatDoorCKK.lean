/- Contracts of the functions that the law reaches, and the law. Conditions: none. -/
import Derived.Test.YtikgcbioagmkkaaGreatDoorCKD
import Derived.Test.YtikgcbioagmkkaaGreatDoorCSD
import Derived.Test.YtikgcbioagmkkaaGreatDoorCKA
import Derived.Test.YtikgcbioagmkkaaGreatDoorCKB
import Derived.Test.YtikgcbioagmkkaaGreatDoorCSE
set_option maxRecDepth 100000
set_option linter.all false
set_option maxHeartbeats 16000000
namespace Go.Proofs.YtikgcbioagmkkaaGreatDoor
open Go.Sy
def dod(d:Option Dk)(k:Nat):Bool:=decide (QGu d (k:Nat))
def ckA(F:Func)(d:Option Dk)(I:List Ino)(E:List Ent)(R:List Bool)(sl:List (Nat×AV))(L:List (Int×Int)):S:=⟨(0,.yld 9)::(1,.ptr 2 0)::sl,[(9,rgL 8 F),(8,.frame 14 [(2,.ptr 6 0)]),(6,.cells 1 [.ts 2 (L.map QIf) 10]),(10,.tail 153 true),(5,.frame 6 []),(3,.frame 8 []),(2,.cells 1 [.d (.fp 209 (Qk d I E R))])],11⟩
def c1(a i:Nat):List (Nat×AV):=[(a,.d (.it .i64 ((i+1:Nat):Nat)))]
def c2(i k:Nat):List (Nat×AV):=[(3,.d (.it .i64 ((i+1:Nat):Nat))),(10,.d (.it .i64 (k:Nat)))]
variable {N i k j ka o q had:Nat}
variable {σ:S}
theorem QB6{τ τ':S}(e:τ'=τ)(h:Wk N σ τ'):Wk N σ τ:=by rw[<-e];exact h
variable {b:List (List D)}
theorem QEp{a:List (List D)}(h:a=b):some (Ob.cells 1 [.ts 2 a 10])=some (Ob.cells 1 [.ts 2 b 10]):=by rw[h]
theorem QNP(d:Option Dk)(hd:Zs d):FnC Tryz.prog 95 [.d (QQ d)] (.d (.fs 2 ((J2 (dod d) (xI (rdS d) 16) (xE (rdS d) 24) (λb=>YS (λi=>(xI (rdS d) 16).getD i ZZ) (λi=>decide (Q1 (rdS d) (i:Nat))) (b:Nat) 16)).map QIf))):=by
 have hr:=QDU d hd;have hl:(Q2 (kdI (xI (rdS d) 16)) (xE (rdS d) 24)).length=16:=by unfold Q2;rw[Yf];rfl
 have hx:=QGt (rdS d) 16 24 hl;have hent:=λkind k hk h1=>QJw hd hx kind k hk h1;have hown:=λb=>QMm hd hx b;unfold J2;have hdod:(λk=>decide (QGu d (k:Nat)))=dod d:=rfl;rw[hdod]at hent;generalize hRR:Q2 (kdI (xI (rdS d) 16)) (xE (rdS d) 24)=R at*
 generalize hII:xI (rdS d) 16=I at*
 generalize hEE:xE (rdS d) 24=E at*
 generalize QLI (dod d) I E R=P at*
 have hPl:=λq=>QMe P q;have hBl:=λq=>QMf (λb=>YS (λi=>I.getD i ZZ) (λi=>decide (Q1 (rdS d) (i:Nat))) (b:Nat) 16) q;have hMl:∀L:List (Int×Int),(L.map QIf).length=L.length:=λL=>ze ..;refine QK i95 ?_;(repeat' (conv=>whnf);first|refine cEk hr ?_|refine cI i99 ?_|refine cI QTt ?_|refine CallI.inlN 2 QE QT4 rfl rfl rfl rfl ?_|refine gOI ?_|intro x hx hu|intro h|apply sS);conv=>whnf
 refine XN.intro QE QSE rfl rfl ?_;(repeat' (conv=>whnf);first|refine QC ?_|intro x hx hu|intro h|apply sS);conv=>whnf
 refine Q0.wk (Wk.nlTs 6 0 1 2 153 wu wu) ?_;refine Q0.wk (τ:=ckA Tryz.f185 d I E R (c1 3 0) []) (Wk.enF rr (by (repeat (first|exact trivial|refine ai (Qy rfl wu) ?_|refine ai (Q4 wu (by (repeat (first|exact trivial|refine ai wu ?_)))) ?_))) rfl) ?_;conv=>whnf
 refine Qa QE (λi:Nat=>i<=5) (λi=>ckA Tryz.f185 d I E R (c1 3 i) (Xq P (24*i))) (λi=>5-i) 0 (yc _) (Wk.en ⟨ai rfl rr,(by (repeat (first|exact trivial|refine ai rfl ?_))),rfl⟩) ?_;intro i hi;by_cases hi5:i<5
 ·(repeat' (conv=>whnf);first|refine QC ?_|intro x hx hu|intro h|apply sS);conv=>whnf
  refine Qa QE (λk:Nat=>k<=24) (λk=>ckA Tryz.f185 d I E R (c2 i k) (Xq P (24*i+k))) (λk=>24-k) 0 (yc _) (Wk.enF rr (by (repeat (first|exact trivial|refine ai (Qy rfl wu) ?_|refine ai (Q4 wu (by (repeat (first|exact trivial|refine ai wu ?_)))) ?_))) rfl) ?_;intro k hk;by_cases hk24:k<24
  ·have hek:=hent (i+1) k hk24 om;have h1:=hPl (24*i+k);have h2:=hMl (Xq P (24*i+k));by_cases hP:P (i+1) k=false
   ·have hno:=QJr (P:=P) hk24 hP;rw[hP]at hek;(repeat' (conv=>whnf);first|refine cEk hek ?_|refine QC ?_|intro x hx hu|intro h|apply sS);refine⟨k+1,hk24,by first|omega|(dsimp only;omega),QB6 (congrArg (ckA Tryz.f185 d I E R (c2 i (k+1))) hno.symm) (Wk.enF (ai rfl (ai rfl (ai rfl (ai (QM om) trivial)))) (by (repeat (first|exact trivial|refine ai (Qy rfl wu) ?_|refine ai (Q4 wu (by (repeat (first|exact trivial|refine ai wu ?_)))) ?_))) rfl)⟩
   ·have hP:P (i+1) k=true:=by simpa using hP
    have hyes:=QMc (P:=P) hk24 hP;rw[hP]at hek;(repeat' (conv=>whnf);first|refine cEk hek ?_|with_reducible refine Yr.intro QE wu wu wu ?_|refine QC ?_|intro x hx hu|intro h|apply sS);refine⟨k+1,hk24,by first|omega|(dsimp only;omega),QB6 (congrArg (ckA Tryz.f185 d I E R (c2 i (k+1))) hyes.symm) (Wk.enF (ai rfl (ai rfl (ai rfl (ai (QM om) trivial)))) (ai (Qy rfl rfl) (ai (Q4 rfl rr) (ai (Qy rfl (QEp ?_)) (ai (Qy rfl rfl) (ai (Q4 rfl trivial) (ai (Q4 rfl trivial) (ai (Qy rfl rfl) trivial))))))) rfl)⟩;rw[QGw];rfl
  ·have hke:k=24:=by omega
   (repeat' (conv=>whnf);first|refine QC ?_|intro x hx hu|intro h|apply sS);refine⟨i+1,hi5,by first|omega|(dsimp only;omega),QB6 (congrArg (ckA Tryz.f185 d I E R (c1 3 (i+1))) (congrArg (Xq P) (show 24*i+k=24*(i+1) by omega))) (Wk.enF (ai rfl (ai rfl (ai (QM om) trivial))) (by (repeat (first|exact trivial|refine ai (Qy rfl wu) ?_|refine ai (Q4 wu (by (repeat (first|exact trivial|refine ai wu ?_)))) ?_))) rfl)⟩
 ·have hie:i=5:=by omega
  rw[hie];(repeat' (conv=>whnf);first|refine QC ?_|intro x hx hu|intro h|apply sS);conv=>whnf
  refine Qa QE (λq:Nat=>q<=24) (λq=>ckA Tryz.f185 d I E R (c1 5 q) (Xq P 120++Ja (λb=>YS (λi=>I.getD i ZZ) (λi=>decide (Q1 (rdS d) (i:Nat))) (b:Nat) 16) q)) (λq=>24-q) 0 (yc _) (QB6 (congrArg (ckA Tryz.f185 d I E R (c1 5 0)) (show Xq P 120=Xq P 120++Ja (λb=>YS (λi=>I.getD i ZZ) (λi=>decide (Q1 (rdS d) (i:Nat))) (b:Nat) 16) 0 by rw[show Ja (λb=>YS (λi=>I.getD i ZZ) (λi=>decide (Q1 (rdS d) (i:Nat))) (b:Nat) 16) 0=[]from rfl,xh])) (Wk.enF rr (by (repeat (first|exact trivial|refine ai (Qy rfl wu) ?_|refine ai (Q4 wu (by (repeat (first|exact trivial|refine ai wu ?_)))) ?_))) rfl)) ?_;intro q hq;by_cases hq24:q<24
  ·have how:=hown ((q+1:Nat):Int);have h1:=hPl 120;have h3:=hBl q;have h2:=hMl (Xq P 120++Ja (λb=>YS (λi=>I.getD i ZZ) (λi=>decide (Q1 (rdS d) (i:Nat))) (b:Nat) 16) q);rw[zu]at h2;have hle:=QFZ (λi=>I.getD i ZZ) (λi=>decide (Q1 (rdS d) (i:Nat))) ((q+1:Nat):Int) 16;have hyes:=QMd (own:=(λb=>YS (λi=>I.getD i ZZ) (λi=>decide (Q1 (rdS d) (i:Nat))) (b:Nat) 16)) (k:=q);have hno:=QJs (own:=(λb=>YS (λi=>I.getD i ZZ) (λi=>decide (Q1 (rdS d) (i:Nat))) (b:Nat) 16)) (k:=q);by_cases ho:1<YS (λi=>I.getD i ZZ) (λi=>decide (Q1 (rdS d) (i:Nat))) ((q+1:Nat):Int) 16
   ·(repeat' (conv=>whnf);first|refine cEk how ?_|with_reducible refine Yr.intro QE wu wu wu ?_|refine QC ?_|intro x hx hu|intro h|apply sS);refine⟨q+1,hq24,by first|omega|(dsimp only;omega),QB6 (congrArg (ckA Tryz.f185 d I E R (c1 5 (q+1))) ((y7 _ _ _).trans (congrArg (Xq P 120++ ·) (hyes ho).symm))) (Wk.enF (ai rfl (ai rfl (ai (QM om) trivial))) (ai (Qy rfl rfl) (ai (Q4 rfl rr) (ai (Qy rfl (QEp ?_)) (ai (Qy rfl rfl) (ai (Q4 rfl trivial) (ai (Q4 rfl trivial) (ai (Qy rfl rfl) trivial))))))) rfl)⟩;rw[QGw];rfl
   ·(repeat' (conv=>whnf);first|refine cEk how ?_|refine QC ?_|intro x hx hu|intro h|apply sS);refine⟨q+1,hq24,by first|omega|(dsimp only;omega),QB6 (congrArg (ckA Tryz.f185 d I E R (c1 5 (q+1))) (congrArg (Xq P 120++ ·) (hno ho).symm)) (Wk.enF (ai rfl (ai rfl (ai (QM om) trivial))) (by (repeat (first|exact trivial|refine ai (Qy rfl wu) ?_|refine ai (Q4 wu (by (repeat (first|exact trivial|refine ai wu ?_)))) ?_))) rfl)⟩
  ·have hqe:q=24:=by omega
   rw[hqe];(repeat' (conv=>whnf);first|refine QC ?_|intro x hx hu|intro h|apply sS);rfl
def QEN(d:Option Dk)(b:Nat):Nat:=YS (λi=>(xI (rdS d) 16).getD i ZZ) (λi=>decide (Q1 (rdS d) (i:Nat))) (b:Nat) 16
theorem QPR{P:Nat->Nat->Bool}(hi:i<5)(hk:k<24)(h:P (i+1) k=true):Xq P 120≠[]:=λq=>by
 unfold Xq at q;have hm:24*i+k∈(List.range 120).filter λj=>P (j/24+1) (j % 24):=by
  rw[xj];refine⟨yj.2 om,?_⟩;rw[show(24*i+k)/24=i by omega,show(24*i+k) % 24=k by omega];exact h
 rw[jh.1 q]at hm;cases hm
theorem QPS{own:Nat->Nat}(hk:k<24)(h:1<own (k+1)):Ja own 24≠[]:=λq=>by
 unfold Ja at q;have hm:k∈(List.range 24).filter λj=>decide (1<own (j+1)):=by
  rw[xj];exact⟨yj.2 hk,decide_eq_true h⟩
 rw[jh.1 q]at hm;cases hm
def clA(F:Func)(d:Option Dk)(I:List Ino)(E:List Ent)(R:List Bool)(sl:List (Nat×AV)):S:=⟨(0,.yld 4)::(1,.ptr 2 0)::sl,[(4,rgL 3 F),(3,.frame 8 [(2,.ptr 0 0)]),(2,.cells 1 [.d (.fp 209 (Qk d I E R))]),(0,.cells 1 [.d (.bl false)])],5⟩
theorem QBN(d:Option Dk)(hd:Zs d):FnC Tryz.prog 44 [.d (QQ d)] (.d (.bl (decide (J2 (dod d) (xI (rdS d) 16) (xE (rdS d) 24) (QEN d)=[])))):=by
 have hr:=QDU d hd;have hl:(Q2 (kdI (xI (rdS d) 16)) (xE (rdS d) 24)).length=16:=by unfold Q2;rw[Yf];rfl
 have hx:=QGt (rdS d) 16 24 hl;have hent:=λkind k hk h1=>QJw hd hx kind k hk h1;have hown:=λb=>QMm hd hx b;unfold J2;have hdod:(λk=>decide (QGu d (k:Nat)))=dod d:=rfl;rw[hdod]at hent;generalize hRR:Q2 (kdI (xI (rdS d) 16)) (xE (rdS d) 24)=R at*
 have hO:∀b:Nat,YS (λi=>(xI (rdS d) 16).getD i ZZ) (λi=>decide (Q1 (rdS d) (i:Nat))) (b:Nat) 16=QEN d b:=λb=>rfl;generalize QEN d=O at*
 generalize hII:xI (rdS d) 16=I at*
 generalize hEE:xE (rdS d) 24=E at*
 generalize QLI (dod d) I E R=P at*
 refine QK i44 ?_;(repeat' (conv=>whnf);first|refine cEk hr ?_|refine cI i99 ?_|refine gOI ?_|intro x hx hu|intro h|apply sS);conv=>whnf
 refine XN.intro QE QSE rfl rfl ?_;(repeat' (conv=>whnf);first|refine QC ?_|intro x hx hu|intro h|apply sS);conv=>whnf
 refine Q0.wk (τ:=clA Tryz.f44 d I E R (c1 3 0)) (Wk.enF rr (by (repeat (first|exact trivial|refine ai (Qy rfl wu) ?_|refine ai (Q4 wu (by (repeat (first|exact trivial|refine ai wu ?_)))) ?_))) rfl) ?_;conv=>whnf
 refine Qa QE (λi:Nat=>i<=5/\Xq P (24*i)=[]) (λi=>clA Tryz.f44 d I E R (c1 3 i)) (λi=>5-i) 0 ⟨yc _,rfl⟩ (Wk.en ⟨ai rfl rr,(by (repeat (first|exact trivial|refine ai rfl ?_))),rfl⟩) ?_;intro i ⟨hi,hn0⟩;by_cases hi5:i<5
 ·(repeat' (conv=>whnf);first|refine QC ?_|intro x hx hu|intro h|apply sS);conv=>whnf
  refine Qa QE (λk:Nat=>k<=24/\Xq P (24*i+k)=[]) (λk=>clA Tryz.f44 d I E R (c2 i k)) (λk=>24-k) 0 ⟨yc _,hn0⟩ (Wk.enF rr (by (repeat (first|exact trivial|refine ai (Qy rfl wu) ?_|refine ai (Q4 wu (by (repeat (first|exact trivial|refine ai wu ?_)))) ?_))) rfl) ?_;intro k ⟨hk,hn⟩;by_cases hk24:k<24
  ·have hek:=hent (i+1) k hk24 om;by_cases hP:P (i+1) k=false
   ·have hno:=(QJr (P:=P) hk24 hP).trans hn;rw[hP]at hek;(repeat' (conv=>whnf);first|refine cEk hek ?_|refine QC ?_|intro x hx hu|intro h|apply sS);refine⟨k+1,⟨hk24,hno⟩,by first|omega|(dsimp only;omega),(Wk.enF (ai rfl (ai rfl (ai rfl (ai (QM om) trivial)))) (by (repeat (first|exact trivial|refine ai (Qy rfl wu) ?_|refine ai (Q4 wu (by (repeat (first|exact trivial|refine ai wu ?_)))) ?_))) rfl)⟩
   ·have hP:P (i+1) k=true:=by simpa using hP
    have hbad:¬(Xq P 120++Ja O 24=[]):=λq=>QPR hi5 hk24 hP (jz.1 q).1;rw[hP]at hek;(repeat' (conv=>whnf);first|refine cEk hek ?_|with_reducible refine Yr.intro QE wu wu wu ?_|refine QC ?_|intro x hx hu|intro h|apply sS);exact YX hbad
  ·have hke:k=24:=by omega
   (repeat' (conv=>whnf);first|refine QC ?_|intro x hx hu|intro h|apply sS);refine⟨i+1,⟨hi5,by rw[<-hn];congr 1;omega⟩,by first|omega|(dsimp only;omega),(Wk.enF (ai rfl (ai rfl (ai (QM om) trivial))) (by (repeat (first|exact trivial|refine ai (Qy rfl wu) ?_|refine ai (Q4 wu (by (repeat (first|exact trivial|refine ai wu ?_)))) ?_))) rfl)⟩
 ·have hie:i=5:=by omega
  rw[hie]at hn0;have hn0:Xq P 120=[]:=hn0;(repeat' (conv=>whnf);first|refine QC ?_|intro x hx hu|intro h|apply sS);conv=>whnf
  refine Qa QE (λq:Nat=>q<=24/\Ja O q=[]) (λq=>clA Tryz.f44 d I E R (c1 5 q)) (λq=>24-q) 0 ⟨yc _,rfl⟩ (Wk.enF rr (by (repeat (first|exact trivial|refine ai (Qy rfl wu) ?_|refine ai (Q4 wu (by (repeat (first|exact trivial|refine ai wu ?_)))) ?_))) rfl) ?_;intro q ⟨hq,hn⟩;by_cases hq24:q<24
  ·have how:=hown ((q+1:Nat):Int);have hle:=QFZ (λi=>I.getD i ZZ) (λi=>decide (Q1 (rdS d) (i:Nat))) ((q+1:Nat):Int) 16;have hOq:=hO (q+1);by_cases ho:1<YS (λi=>I.getD i ZZ) (λi=>decide (Q1 (rdS d) (i:Nat))) ((q+1:Nat):Int) 16
   ·have hbad:¬(Xq P 120++Ja O 24=[]):=λz=>QPS hq24 (by rw[<-hOq];exact ho) (jz.1 z).2;(repeat' (conv=>whnf);first|refine cEk how ?_|with_reducible refine Yr.intro QE wu wu wu ?_|refine QC ?_|intro x hx hu|intro h|apply sS);exact YX hbad
   ·have hno:=(QJs (own:=O) (k:=q) (by rw[<-hOq];exact ho)).trans hn;(repeat' (conv=>whnf);first|refine cEk how ?_|refine QC ?_|intro x hx hu|intro h|apply sS);refine⟨q+1,⟨hq24,hno⟩,by first|omega|(dsimp only;omega),(Wk.enF (ai rfl (ai rfl (ai (QM om) trivial))) (by (repeat (first|exact trivial|refine ai (Qy rfl wu) ?_|refine ai (Q4 wu (by (repeat (first|exact trivial|refine ai wu ?_)))) ?_))) rfl)⟩
  ·have hqe:q=24:=by omega
   rw[hqe]at hn;(repeat' (conv=>whnf);first|refine QC ?_|intro x hx hu|intro h|apply sS);exact QML (by rw[hn0,hn];rfl)
def nb(x:Ino):Nat:=(if x.b0=0 then 0 else 1)+(if x.b1=0 then 0 else 1)+(if x.b2=0 then 0 else 1)+(if x.b3=0 then 0 else 1)
variable {x y:Ino}
theorem QNQ(h:RI x):Z8 (QBs x)=x:=by
 have hb:=QFQ h;have e:∀n∈JY x,((by8 n).toNat:Int)=n:=λn hn=>QMP (hb n hn);have e0:=e x.k (by simp[JY]);have e1:=e x.z (by simp[JY]);have e2:=e x.b0 (by simp[JY]);have e3:=e x.b1 (by simp[JY]);have e4:=e x.b2 (by simp[JY]);have e5:=e x.b3 (by simp[JY]);show Ino.mk _ _ _ _ _ _=x;cases x;simp only[Ino.mk.injEq];exact⟨e0,e1,e2,e3,e4,e5⟩
theorem QPT(h:RI x):QBE (QBs x)/\Y5 (QBs x)=x:=by
 have e:=QNQ h;have hB:QBE (QBs x):=⟨by rw[e];exact h,by rw[e]⟩;refine⟨hB,?_⟩;unfold Y5;rw[if_pos hB,e]
structure Mnt(d:Dk):Prop where
 s:∀s∈d.safe,s.length=32
 w:∀w∈d.wait,w.s.length=32
 n:d.safe.length=65
 f0:rdS (some d) 0=Yj
 f1:QBE (rdS (some d) 1)
 f2:(Y5 (rdS (some d) 1)).k=2
variable {n a off m z:Int}
theorem QHN(f:Int->List UInt8)(h0:0<=n)(h1:n<16):(xI f 16).getD n.toNat ZZ=QF f n:=by
 have hl:n.toNat<(xI f 16).length:=by rw[QFX];omega
 rw[zo,zk hl,ko,QIe,if_pos om,show((n.toNat:Nat):Int)=n by omega]
theorem QEq{kd:Int->Int}:∀ {E:List Ent} {R:List Bool},ZE kd E R=R->∀x∈E,¬Xp kd R x
 |[],_,_,x,hx=>by cases hx
 |y::E,R,h,x,hx=>by
  have h':ZE kd E (Xm kd R y)=R:=h;by_cases hy:Xp kd R y
  ·exfalso;have h1:=(Yd hy).2;have h2:=QAK kd E (Xm kd R y);rw[h']at h2;omega
  ·rw [YE hy]at h';rcases zj.1 hx with rfl|hx
   ·exact hy
   ·exact QEq h' x hx
theorem QHO(kd:Int->Int)(E:List Ent):ZE kd E (Q2 kd E)=Q2 kd E:=by
 have key:∀j,(∃i,i<=j/\ZE kd E (Zp kd E i R0)=Zp kd E i R0)\/j+1<=Xj (Zp kd E j R0):=by
  intro j;induction j with
  |zero=>right;show 1<=Xj R0;decide
  |succ j ih=>
   rcases ih with⟨i,hi,h⟩|h
   ·exact .inl ⟨i,by omega,h⟩
   ·have e:Zp kd E (j+1) R0=ZE kd E (Zp kd E j R0):=Ye kd E j 1 R0;by_cases hc:Xj (Zp kd E j R0)<Xj (ZE kd E (Zp kd E j R0))
    ·right;rw[e];omega
    ·exact .inl ⟨j,by omega,QBx kd E _ hc⟩
 rcases key 16 with⟨i,hi,h⟩|h
 ·have:=QGq kd E hi h;rw[<-this];exact h
 ·have h1:=QJq (Zp kd E 16 R0);rw[Yf]at h1;have h2:R0.length=16:=rfl;omega
variable {E:List Ent}
theorem QFp{kd:Int->Int}{x:Ent}(hx:x∈E)(hu:x.u=true)(hp:(Q2 kd E).getD x.p.toNat false=true)(h2:kd x.p=2)(h0:kd x.t≠0)(ht:x.t.toNat<16):(Q2 kd E).getD x.t.toNat false=true:=by
 have h:=QEq (QHO kd E) x hx;cases hb:(Q2 kd E).getD x.t.toNat false with
 |true=>rfl
 |false=>
  have hl:(Q2 kd E).length=16:=Yf kd E 16 R0;exact absurd ⟨hu,hp,h2,h0,hb,by omega⟩ h
theorem QIr(kd:Int->Int)(E:List Ent):(Q2 kd E).getD 0 false=true:=by
 have h:∀(n:Nat) (R:List Bool),R.getD 0 false=true->(Zp kd E n R).getD 0 false=true:=by
  have hp:∀(L:List Ent) (R:List Bool),R.getD 0 false=true->(ZE kd L R).getD 0 false=true:=by
   intro L;induction L with
   |nil=>exact λ_ h=>h
   |cons x L ih=>
    intro R hR;show(ZE kd L (Xm kd R x)).getD 0 false=true;refine ih _ ?_;by_cases hx:Xp kd R x
    ·rw [(Yd hx).1,zo];by_cases h0:x.t.toNat=0
     ·rw [h0,Wu (by have:=hx.2.2.2.2.2;omega)];rfl
     ·rw [qf h0,<-zo];exact hR
    ·rw [YE hx];exact hR
  intro n;induction n with
  |zero=>exact λR h=>h
  |succ n ih=>
   intro R hR;rw[Ye kd E n 1 R];exact hp E _ (ih R hR)
 exact h 16 R0 rfl
variable {R:List Bool}
variable {g mk:Nat->Bool}
section
variable {f:Int->List UInt8}
theorem QPU(hk:k<24):QA f (k:Nat)∈xE f 24:=by
 unfold xE;exact ye.2 ⟨k,yj.2 hk,if_pos hk⟩
theorem QRO{x:Ent}(h:x∈xE f 24):∃k:Nat,k<24/\x=QA f (k:Nat):=by
 unfold xE at h;obtain⟨k,hk,rfl⟩:=ye.1 h;exact⟨k,yj.1 hk,if_pos (yj.1 hk)⟩
theorem J3(h:(QA f (k:Nat)).u=true):0<=(QA f (k:Nat)).p/\(QA f (k:Nat)).p<16/\1<=(QA f (k:Nat)).t/\(QA f (k:Nat)).t<16/\Zh (QA f (k:Nat)).n=true:=by
 rcases QDT f (k:Nat)with⟨a,_⟩|⟨_,a,b,c,d,e⟩
 ·rw [h]at a;cases a
 ·exact ⟨a,b,c,d,e⟩
theorem QNR(h0:0<=n)(h1:n<16):kdI (xI f 16) n=(QF f n).k:=by unfold kdI;rw[QHN f h0 h1]
inductive ZU(f:Int->List UInt8):Int->Prop
 |root:ZU f 0
 |step(k:Nat)(hk:k<24)(hu:(QA f (k:Nat)).u=true)(hp:ZU f (QA f (k:Nat)).p)(h2:(QF f (QA f (k:Nat)).p).k=2):ZU f (QA f (k:Nat)).t
def Js(f:Int->List UInt8)(b:Int)(i:Nat):Prop:=(QF f (i:Nat)).k=1/\b∈Zt (QF f (i:Nat))/\Q1 f (i:Nat)
structure Cln(f:Int->List UInt8):Prop where
 od:∀k:Nat,k<24->Q5 (f (17+(k:Nat)))=true
 dg:∀k:Nat,k<24->(QA f (k:Nat)).u=true->(QF f (QA f (k:Nat)).t).k≠0
 sd:∀k:Nat,k<24->(QA f (k:Nat)).u=true->ZU f (QA f (k:Nat)).p/\(QF f (QA f (k:Nat)).p).k=2
 db:∀j k:Nat,j<k->k<24->(QA f (j:Nat)).u=true->(QA f (k:Nat)).u=true->(QA f (j:Nat)).p=(QA f (k:Nat)).p->(QA f (j:Nat)).n≠(QA f (k:Nat)).n
 lk:∀j k:Nat,j<k->k<24->(QA f (j:Nat)).u=true->(QA f (k:Nat)).u=true->(QA f (j:Nat)).t≠(QA f (k:Nat)).t
 ow:∀b:Nat,1<=b->b<=24->∀i j:Nat,i<j->j<16->Js f (b:Nat) i->Js f (b:Nat) j->False
theorem QNS(hR:∀i:Nat,R.getD i false=true->ZU f (i:Nat)){x:Ent}(hx:x∈xE f 24):∀i:Nat,(Xm (kdI (xI f 16)) R x).getD i false=true->ZU f (i:Nat):=by
 intro i hi;by_cases ht:Xp (kdI (xI f 16)) R x
 ·rw [(Yd ht).1]at hi;by_cases hit:i=x.t.toNat
  ·obtain ⟨k,hk,rfl⟩:=QRO hx;have hre:=J3 ht.1;have hp:=hR _ ht.2.1;rw[show(((QA f (k:Nat)).p.toNat:Nat):Int)=(QA f (k:Nat)).p by omega]at hp;have h:=ZU.step k hk ht.1 hp (by rw[<-QNR hre.1 hre.2.1];exact ht.2.2.1);rw[hit,show(((QA f (k:Nat)).t.toNat:Nat):Int)=(QA f (k:Nat)).t by omega];exact h
  ·rw [zo,qf (λe=>hit e.symm),<-zo]at hi;exact hR i hi
 ·rw [YE ht]at hi;exact hR i hi
theorem QHP:∀(L:List Ent),(∀x∈L,x∈xE f 24)->∀ {R:List Bool},(∀i:Nat,R.getD i false=true->ZU f (i:Nat))->∀i:Nat,(ZE (kdI (xI f 16)) L R).getD i false=true->ZU f (i:Nat)
 |[],_,_,hR=>hR
 |x::L,hL,_,hR=>QHP L (λy hy=>hL y (zi _ hy)) (QNS hR (hL x zm))
theorem QHQ:∀(n:Nat) {R:List Bool},(∀i:Nat,R.getD i false=true->ZU f (i:Nat))->∀i:Nat,(Zp (kdI (xI f 16)) (xE f 24) n R).getD i false=true->ZU f (i:Nat)
 |0,_,hR=>hR
 |n+1,R,hR=>by
  rw[Ye _ _ n 1 R];exact QHP (xE f 24) (λ_ h=>h) (QHQ n hR)
theorem QS2(h:(Q2 (kdI (xI f 16)) (xE f 24)).getD i false=true):ZU f (i:Nat):=by
 refine QHQ 16 (R:=R0) (λi hi=>?_) i h;cases i with
 |zero=>exact ZU.root
 |succ i=>
  exfalso;have e:R0.getD (i+1) false=false:=by
   unfold R0;rw[List.getD_cons_succ,zo];by_cases h15:i<15
   ·rw [jv,if_pos h15];rfl
   ·rw [jv,if_neg h15];rfl
  rw[e]at hi;cases hi
theorem QNT(hd:∀k:Nat,k<24->(QA f (k:Nat)).u=true->(QF f (QA f (k:Nat)).t).k≠0)(h:ZU f n):0<=n/\n<16/\(Q2 (kdI (xI f 16)) (xE f 24)).getD n.toNat false=true:=by
 induction h with
 |root=>exact⟨by omega,by omega,QIr _ _⟩
 |step k hk hu hp h2 ih=>
  have hre:=J3 hu;refine⟨by omega,by omega,QFp (QPU hk) hu ih.2.2 (by rw[QNR ih.1 ih.2.1];exact h2) (by rw[QNR om om];exact hd k hk hu) om⟩
theorem QRP(h:i<j)(hj:j<16)(h1:g i=true)(h2:g j=true):1<((List.range 16).filter g).length:=by
 have hp:((List.range 16).filter g).Pairwise (· < ·):=qg _ jy;have m1:i∈(List.range 16).filter g:=xj.2 ⟨yj.2 om,h1⟩;have m2:j∈(List.range 16).filter g:=xj.2 ⟨yj.2 hj,h2⟩;generalize (List.range 16).filter g=l at*
 match l,m1,m2 with
 |[x],m1,m2=>
  rw[xg]at m1 m2;omega
 |_::_::_,_,_=>simp
theorem QRQ(h:1<((List.range 16).filter g).length):∃i j:Nat,i<j/\j<16/\g i=true/\g j=true:=by
 have hp:((List.range 16).filter g).Pairwise (· < ·):=qg _ jy;have hm:∀x∈(List.range 16).filter g,x<16/\g x=true:=λx hx=>⟨yj.1 (xj.1 hx).1,(xj.1 hx).2⟩;generalize (List.range 16).filter g=l at*
 match l,h,hp,hm with
 |x::y::t,_,hp,hm=>
  exact⟨x,y,List.rel_of_pairwise_cons hp zm,(hm y (by simp)).1,(hm x (by simp)).2,(hm y (by simp)).2⟩
theorem QLe{od:Nat->Bool}{I:List Ino}{own:Nat->Nat}:J2 od I E own=[]↔(∀q k:Nat,q<5->k<24->QLI od I E (Q2 (kdI I) E) (q+1) k=false)/\∀b:Nat,1<=b->b<=24->¬1<own b:=by
 unfold J2 Xq Ja;rw[jz,jh,jh,jx,jx];constructor
 ·rintro ⟨h1,h2⟩;refine⟨λq k hq hk=>?_,λb h0 hb hh=>?_⟩
  ·have:=h1 (24*q+k) (yj.2 om);rw[show(24*q+k)/24+1=q+1 by omega,show(24*q+k) % 24=k by omega]at this;simpa using this
  ·have:=h2 (b-1) (yj.2 om);rw[show b-1+1=b by omega]at this;exact this (decide_eq_true hh)
 ·rintro ⟨h1,h2⟩;refine⟨λj hj=>?_,λj hj=>?_⟩
  ·have hj:=yj.1 hj;rw[h1 (j/24) (j % 24) om om];decide
  ·have hj:=yj.1 hj;rw[decide_eq_false (h2 (j+1) om om)];decide
theorem QC1(hk:k<24){g:Ent->Bool}:((xE f 24).take k).any g=false↔∀j:Nat,j<k->g (QA f (j:Nat))=false:=by
 rw[List.any_eq_false];constructor
 ·intro h j hj;have hm:QA f (j:Nat)∈(xE f 24).take k:=by
   refine jl.2 ⟨j,by rw[QBw];omega,?_⟩;rw[QDS,if_pos om]
  simpa using h _ hm
 ·intro h x hx;obtain⟨j,hj,rfl⟩:=jl.1 hx;rw[QBw]at hj;rw[QDS,if_pos om,h j om];decide
end
variable {d:Dk}
theorem QKD(hl:d.safe.length=65):J2 (dod (some d)) (xI (rdS (some d)) 16) (xE (rdS (some d)) 24) (QEN (some d))=[]↔Cln (rdS (some d)):=by
 rw[QLe];have hod:∀k:Nat,k<24->(dod (some d) k=false↔Q5 (rdS (some d) (17+(k:Nat)))=true):=by
  intro k hk;unfold dod;rw[decide_eq_false_iff_not];show¬((0<=17+((k:Nat):Int)/\17+((k:Nat):Int)<d.safe.length)/\Q5 (rdS (some d) (17+(k:Nat)))=false)↔_;cases Q5 (rdS (some d) (17+(k:Nat)))with
  |true=>simp
  |false=>simp;omega
 have how:∀b:Nat,1<QEN (some d) b↔∃i j:Nat,i<j/\j<16/\Js (rdS (some d)) (b:Nat) i/\Js (rdS (some d)) (b:Nat) j:=by
  intro b;have e:∀i:Nat,i<16->((decide (((xI (rdS (some d)) 16).getD i ZZ).k=1/\(b:Int)∈Zt ((xI (rdS (some d)) 16).getD i ZZ))&&decide (Q1 (rdS (some d)) (i:Nat)))=true↔Js (rdS (some d)) (b:Nat) i):=by
   intro i hi;have:=QHN (rdS (some d)) (n:=(i:Nat)) om om;rw[uy]at this;rw[this];unfold Js;rw[zf,decide_eq_true_eq,decide_eq_true_eq,and_assoc]
  unfold QEN YS;constructor
  ·intro h;obtain⟨i,j,h1,h2,h3,h4⟩:=QRQ h;exact⟨i,j,h1,h2,(e i om).1 h3,(e j h2).1 h4⟩
  ·rintro ⟨i,j,h1,h2,h3,h4⟩;exact QRP h1 h2 ((e i om).2 h3) ((e j h2).2 h4)
 generalize rdS (some d)=f at*
 have hg:∀k:Nat,k<24->(xE f 24).getD k ZG=QA f (k:Nat):=λk hk=>QOq f hk;have hsn:∀k:Nat,k<24->(QA f (k:Nat)).u=true->(QCm (xI f 16) (Q2 (kdI (xI f 16)) (xE f 24)) (QA f (k:Nat))↔((Q2 (kdI (xI f 16)) (xE f 24)).getD (QA f (k:Nat)).p.toNat false=true/\(QF f (QA f (k:Nat)).p).k=2)):=by
  intro k hk hu;have hre:=J3 hu;unfold QCm;rw[QHN f hre.1 hre.2.1];exact⟨λh=>⟨h.2.1,h.2.2⟩,λh=>⟨hu,h.1,h.2⟩⟩
 constructor
 ·rintro ⟨h,hb⟩;have dg:∀k:Nat,k<24->(QA f (k:Nat)).u=true->(QF f (QA f (k:Nat)).t).k≠0:=by
   intro k hk hu;have hre:=J3 hu;have h2:((QA f (k:Nat)).u&&decide (((xI f 16).getD (QA f (k:Nat)).t.toNat ZZ).k=0))=false:=by
    rw[<-hg k hk];exact h 1 k om hk
   rw[hu,xl,decide_eq_false_iff_not,QHN f om om]at h2;exact h2
  refine⟨λk hk=>(hod k hk).1 (h 0 k om hk),dg,λk hk hu=>?_,λj k hj hk hu hv hp hn=>?_,λj k hj hk hu hv ht=>?_,λb h0 h1 i j hi hj o1 o2=>hb b h0 h1 ((how b).2 ⟨i,j,hi,hj,o1,o2⟩)⟩
  ·have h3:((QA f (k:Nat)).u&& !decide (QCm (xI f 16) (Q2 (kdI (xI f 16)) (xE f 24)) (QA f (k:Nat))))=false:=by
    rw[<-hg k hk];exact h 2 k om hk
   rw[hu,xl,Bool.not_eq_false',decide_eq_true_eq,hsn k hk hu]at h3;have hre:=J3 hu;have:=QS2 h3.1;rw[show(((QA f (k:Nat)).p.toNat:Nat):Int)=(QA f (k:Nat)).p by omega]at this;exact⟨this,h3.2⟩
  ·have h4:((QA f (k:Nat)).u&&((xE f 24).take k).any λo=>o.u&&(decide (o.p=(QA f (k:Nat)).p)&&decide (o.n=(QA f (k:Nat)).n)))=false:=by
    rw[<-hg k hk];exact h 3 k om hk
   rw[hv,xl,QC1 hk]at h4;have:=h4 j hj;rw[hu,decide_eq_true hp,decide_eq_true hn]at this;cases this
  ·have h5:((QA f (k:Nat)).u&&((xE f 24).take k).any λo=>o.u&&decide (o.t=(QA f (k:Nat)).t))=false:=by
    rw[<-hg k hk];exact h 4 k om hk
   rw[hv,xl,QC1 hk]at h5;have:=h5 j hj;rw[hu,decide_eq_true ht]at this;cases this
 ·intro c;refine⟨λq k hq hk=>?_,λb h0 h1 hh=>?_⟩
  ·have hq5:q=0\/q=1\/q=2\/q=3\/q=4:=by omega
   rcases hq5 with rfl|rfl|rfl|rfl|rfl
   ·exact (hod k hk).2 (c.od k hk)
   ·show (((xE f 24).getD k ZG).u&&decide (((xI f 16).getD ((xE f 24).getD k ZG).t.toNat ZZ).k=0))=false;rw[hg k hk];cases hu:(QA f (k:Nat)).u with
    |false=>rfl
    |true=>
     have hre:=J3 hu;rw[xl,decide_eq_false_iff_not,QHN f om om];exact c.dg k hk hu
   ·show (((xE f 24).getD k ZG).u&& !decide (QCm (xI f 16) (Q2 (kdI (xI f 16)) (xE f 24)) ((xE f 24).getD k ZG)))=false;rw[hg k hk];cases hu:(QA f (k:Nat)).u with
    |false=>rfl
    |true=>
     rw[xl,Bool.not_eq_false',decide_eq_true_eq,hsn k hk hu];have:=c.sd k hk hu;exact⟨(QNT c.dg this.1).2.2,this.2⟩
   ·show (((xE f 24).getD k ZG).u&&((xE f 24).take k).any λo=>o.u&&(decide (o.p=((xE f 24).getD k ZG).p)&&decide (o.n=((xE f 24).getD k ZG).n)))=false;rw[hg k hk];cases hv:(QA f (k:Nat)).u with
    |false=>rfl
    |true=>
     rw[xl,QC1 hk];intro j hj;cases hu:(QA f (j:Nat)).u with
     |false=>rfl
     |true=>
      rw[xl];by_cases hp:(QA f (j:Nat)).p=(QA f (k:Nat)).p
      ·rw [decide_eq_false (c.db j k hj hk hu hv hp),Bool.and_false]
      ·rw [decide_eq_false hp,Bool.false_and]
   ·show (((xE f 24).getD k ZG).u&&((xE f 24).take k).any λo=>o.u&&decide (o.t=((xE f 24).getD k ZG).t))=false;rw[hg k hk];cases hv:(QA f (k:Nat)).u with
    |false=>rfl
    |true=>
     rw[xl,QC1 hk];intro j hj;cases hu:(QA f (j:Nat)).u with
     |false=>rfl
     |true=>rw[xl,decide_eq_false (c.lk j k hj hk hu hv)]
  ·obtain ⟨i,j,hi,hj,o1,o2⟩:=(how b).1 hh;exact c.ow b h0 h1 i j hi hj o1 o2
def Zj(f:Int->List UInt8)(a:Int)(s:List UInt8):Int->List UInt8:=λm=>if m=a then s else f m
theorem QNU{x:Ent}(hu:x.u=true)(h:RE x):XZ (Y0 x)=x:=by
 rcases h with⟨a,_⟩|⟨_,p0,p1,t0,t1,hn⟩
 ·rw [hu]at a;cases a
 have hl:x.n.length<=8:=by unfold Zh at hn;simp at hn;omega
 have ep:=JW (n:=x.p) om;have et:=JW (n:=x.t) om;have el:=JW (n:=(x.n.length:Nat)) om;unfold Y0;rw[if_pos hu];obtain⟨u,p,n,t⟩:=x;dsimp only at*
 subst hu;have en:QDL ([1,Yz p,Yz t,Yz (n.length:Nat),0,0,0,0,0,0,0,0,0,0,0,0]++n++List.replicate (16-n.length) 0)=n:=by
  have e3:([1,Yz p,Yz t,Yz (n.length:Nat),0,0,0,0,0,0,0,0,0,0,0,0]++n++List.replicate (16-n.length) 0).getD 3 0=Yz (n.length:Nat):=rfl;unfold QDL;rw[e3,if_pos om,show(Yz (n.length:Nat)).toNat=n.length by omega];show(n++List.replicate (16-n.length) 0).take n.length=n;exact un rfl
 unfold XZ;rw[en];show Ent.mk true ((Yz p).toNat:Nat) n ((Yz t).toNat:Nat)=_;rw[ep,et]
theorem QC2{x:Ent}(h:RE x):Q5 (ZR x)=true/\Jo (ZR x)=x:=by
 unfold ZR;rw[if_pos h];cases hu:x.u with
 |true=>
  have e:=QNU hu h;have hB:QEe (Y0 x):=⟨by rw[e];exact h,by rw[e]⟩;exact⟨by unfold Q5;exact decide_eq_true (.inr hB),by unfold Jo;rw[if_pos hB,e]⟩
 |false=>
  have hx:x=ZG:=by
   rcases h with⟨_,a,b,c⟩|⟨a,_⟩
   ·obtain ⟨u,p,n,t⟩:=x;dsimp only at*
    subst hu a b c;rfl
   ·rw [hu]at a;cases a
  subst hx;have e:Y0 ZG=Qz:=rfl;rw[e];exact⟨by unfold Q5;exact decide_eq_true (.inl rfl),by unfold Jo;rw[if_neg QGg]⟩
theorem QFq(h:RI x):QBE (Z3 x)/\Y5 (Z3 x)=x:=by
 unfold Z3;rw[if_pos h];exact QPT h
section
variable {f:Int->List UInt8}
theorem QDf(hk:k<24)(s:List UInt8)(j:Int):QA (Zj f (17+(k:Nat)) s) j=if j=(k:Nat)then Jo s else QA f j:=by
 unfold QA Zj;by_cases hj:0<=j/\j<24
 ·rw [if_pos hj,if_pos hj];by_cases e:j=(k:Nat)
  ·rw [if_pos e,if_pos om]
  ·rw [if_neg e,if_neg om]
 ·rw [if_neg hj,if_neg hj,if_neg om]
theorem QNV(hk:k<24)(s:List UInt8)(n:Int):QF (Zj f (17+(k:Nat)) s) n=QF f n:=by
 unfold QF Zj;by_cases hn:0<=n/\n<16
 ·rw [if_pos hn,if_pos hn,if_neg om]
 ·rw [if_neg hn,if_neg hn]
theorem QIs{q:Int}(hq:0<=q/\q<16)(s:List UInt8)(n:Int):QF (Zj f (1+q) s) n=if n=q then Y5 s else QF f n:=by
 unfold QF Zj;by_cases hn:0<=n/\n<16
 ·rw [if_pos hn,if_pos hn];by_cases e:n=q
  ·rw [if_pos e,if_pos om]
  ·rw [if_neg e,if_neg om]
 ·rw [if_neg hn,if_neg hn,if_neg om]
theorem QRR{q:Int}(hq:0<=q/\q<16)(s:List UInt8)(j:Int):QA (Zj f (1+q) s) j=QA f j:=by
 unfold QA Zj;by_cases hj:0<=j/\j<24
 ·rw [if_pos hj,if_pos hj,if_neg om]
 ·rw [if_neg hj,if_neg hj]
theorem QUj(ha:41<=a)(s:List UInt8)(j:Int):QA (Zj f a s) j=QA f j:=by
 unfold QA Zj;by_cases hj:0<=j/\j<24
 ·rw [if_pos hj,if_pos hj,if_neg om]
 ·rw [if_neg hj,if_neg hj]
theorem QUk(ha:41<=a)(s:List UInt8)(n:Int):QF (Zj f a s) n=QF f n:=by
 unfold QF Zj;by_cases hn:0<=n/\n<16
 ·rw [if_pos hn,if_pos hn,if_neg om]
 ·rw [if_neg hn,if_neg hn]
theorem Cln.db'(c:Cln f)(hjk:j≠k)(hj:j<24)(hk:k<24)(hu:(QA f (j:Nat)).u=true)(hv:(QA f (k:Nat)).u=true)(hp:(QA f (j:Nat)).p=(QA f (k:Nat)).p):(QA f (j:Nat)).n≠(QA f (k:Nat)).n:=by
 rcases Nat.lt_or_gt_of_ne hjk with h|h
 ·exact c.db j k h hk hu hv hp
 ·exact λe=>c.db k j h hj hv hu hp.symm e.symm
theorem Cln.lk'(c:Cln f)(hjk:j≠k)(hj:j<24)(hk:k<24)(hu:(QA f (j:Nat)).u=true)(hv:(QA f (k:Nat)).u=true):(QA f (j:Nat)).t≠(QA f (k:Nat)).t:=by
 rcases Nat.lt_or_gt_of_ne hjk with h|h
 ·exact c.lk j k h hk hu hv
 ·exact λe=>c.lk k j h hj hv hu e.symm
theorem QC3(h:ZU f n):Q1 f n:=by
 cases h with
 |root=>exact .inl rfl
 |step k hk hu hp h2=>exact .inr ⟨k,hk,hu,rfl⟩
end
section
variable {f g:Int->List UInt8}
theorem QNW(he:∀j:Int,QA g j=QA f j)(n:Int):Q1 g n↔Q1 f n:=by
 unfold Q1;simp only[he]
theorem QKE(he:∀j:Int,QA g j=QA f j)(hkk:∀n,Q1 f n->(QF g n).k=(QF f n).k)(h:ZU f n):ZU g n:=by
 induction h with
 |root=>exact .root
 |step k hk' hu hp h2 ih=>
  have:=ZU.step (f:=g) k hk' (by rw[he];exact hu) (by rw[he];exact ih) (by rw[he,hkk _ (QC3 hp)];exact h2);rw[he]at this;exact this
theorem Cln.ino(c:Cln f)(he:∀j:Int,QA g j=QA f j)(ho:∀k:Nat,k<24->Q5 (g (17+(k:Nat)))=Q5 (f (17+(k:Nat))))(q:Int)(hi:∀n,n≠q->QF g n=QF f n)
  (hk:Q1 f q->(QF g q).k=(QF f q).k) (hb:Q1 f q->∀b:Nat,1<=b->b<=24->(QF g q).k=1->(b:Int)∈Zt (QF g q)->((b:Int)∈Zt (QF f q))\/∀i:Nat,i<16->¬Js f (b:Nat) i):Cln g:=by
 have hkk:∀n,Q1 f n->(QF g n).k=(QF f n).k:=by
  intro n hn;by_cases e:n=q
  ·subst e;exact hk hn
  ·rw [hi n e]
 have hr:∀n,ZU f n->ZU g n:=λn h=>QKE he hkk h;have htk:∀k:Nat,k<24->(QA f (k:Nat)).u=true->Q1 f (QA f (k:Nat)).t:=λk hk hu=> .inr ⟨k,hk,hu,rfl⟩;refine⟨λk hk=>by rw[ho k hk];exact c.od k hk,λk hk hu=>?_,λk hk hu=>?_,λj k hj hk hu hv hp=>?_,λj k hj hk hu hv=>?_,λb h0 h1 i j hij hj o1 o2=>?_⟩
 ·rw [he]at hu⊢;rw[hkk _ (htk k hk hu)];exact c.dg k hk hu
 ·rw [he]at hu⊢;have:=c.sd k hk hu;exact⟨hr _ this.1,by rw[hkk _ (QC3 this.1)];exact this.2⟩
 ·rw [he]at hu hv;rw[he,he]at hp⊢;exact c.db j k hj hk hu hv hp
 ·rw [he]at hu hv;rw[he,he];exact c.lk j k hj hk hu hv
 ·have key:∀i:Nat,Js g (b:Nat) i->Js f (b:Nat) i\/((i:Nat):Int)=q/\∀i:Nat,i<16->¬Js f (b:Nat) i:=by
   intro i o;have ht:Q1 f (i:Nat):=(QNW he _).1 o.2.2;by_cases e:((i:Nat):Int)=q
   ·have ht':=ht;rw[e]at ht';obtain⟨o1,o2,_⟩:=o;rw[e]at o1 o2;rcases hb ht' b h0 h1 o1 o2 with hh|hh
    ·exact .inl ⟨by rw[e,<-hk ht'];exact o1,by rw[e];exact hh,ht⟩
    ·exact .inr ⟨e,hh⟩
   ·exact .inl ⟨by rw[<-hi _ e];exact o.1,by rw[<-hi _ e];exact o.2.1,ht⟩
  rcases key i o1 with a1|⟨e1,n1⟩
  ·rcases key j o2 with a2|⟨e2,n2⟩
   ·exact c.ow b h0 h1 i j hij hj a1 a2
   ·exact n2 i om a1
  ·rcases key j o2 with a2|⟨e2,n2⟩
   ·exact n1 j hj a2
   ·omega
theorem Cln.same(c:Cln f)(he:∀j:Int,QA g j=QA f j)(ho:∀k:Nat,k<24->Q5 (g (17+(k:Nat)))=Q5 (f (17+(k:Nat))))(hi:∀n,QF g n=QF f n):Cln g:=
 c.ino he ho 0 (λn _=>hi n) (λ_=>by rw[hi]) λ_ b _ _ _ h=> .inl (by rw[<-hi];exact h)
theorem Cln.add(c:Cln f){k0:Nat}(hk0:k0<24)(h0:(QA f (k0:Nat)).u=false){e:Ent}(hR:RE e)(heu:e.u=true)(hs:Q5 (g (17+(k0:Nat)))=true)(hg0:QA g (k0:Nat)=e)(he:∀j:Int,j≠(k0:Nat)->QA g j=QA f j)
  (ho:∀k:Nat,k≠k0->k<24->Q5 (g (17+(k:Nat)))=Q5 (f (17+(k:Nat)))) (hi:∀n,QF g n=QF f n) (ht:¬Q1 f e.t) (hd:(QF f e.t).k≠0) (hp:ZU f e.p) (h2:(QF f e.p).k=2)
  (hn:∀k:Nat,k<24->(QA f (k:Nat)).u=true->(QA f (k:Nat)).p=e.p->(QA f (k:Nat)).n≠e.n) (hb:∀b:Nat,1<=b->(b:Int)∉Zt (QF f e.t)):Cln g:=by
 have hne:∀k:Nat,(QA f (k:Nat)).u=true->k≠k0:=λk hu e=>by rw[e,h0]at hu;cases hu
 have hek:∀k:Nat,k≠k0->QA g (k:Nat)=QA f (k:Nat):=λk hk=>he _ om;have hr:∀n,ZU f n->ZU g n:=by
  intro n h;induction h with
  |root=>exact .root
  |step k hk' hu hp h2 ih=>
   have ek:=hek k (hne k hu);have:=ZU.step (f:=g) k hk' (by rw[ek];exact hu) (by rw[ek];exact ih) (by rw[ek,hi];exact h2);rw[ek]at this;exact this
 have htk:∀k:Nat,k<24->(QA f (k:Nat)).u=true->(QA f (k:Nat)).t≠e.t:=λk hk hu e'=>ht (.inr ⟨k,hk,hu,e'⟩);refine⟨λk hk=>?_,λk hk hu=>?_,λk hk hu=>?_,λj k hj hk hu hv hpp=>?_,λj k hj hk hu hv=>?_,λb h0' h1 i j hij hj o1 o2=>?_⟩
 ·by_cases e':k=k0
  ·subst e';exact hs
  ·rw [ho k e' hk];exact c.od k hk
 ·rw [hi];by_cases e':k=k0
  ·subst e';rw[hg0];exact hd
  ·rw [hek k e']at hu⊢;exact c.dg k hk hu
 ·rw [hi];by_cases e':k=k0
  ·subst e';rw[hg0];exact⟨hr _ hp,h2⟩
  ·rw [hek k e']at hu⊢;have:=c.sd k hk hu;exact⟨hr _ this.1,this.2⟩
 ·by_cases ej:j=k0
  ·subst ej;rw[hek k om]at hv hpp⊢;rw[hg0]at hpp⊢;exact λq=>hn k hk hv hpp.symm q.symm
  ·rw [hek j ej]at hu hpp⊢;by_cases ek:k=k0
   ·subst ek;rw[hg0]at hpp⊢;exact hn j om hu hpp
   ·rw [hek k ek]at hv hpp⊢;exact c.db j k hj hk hu hv hpp
 ·by_cases ej:j=k0
  ·subst ej;rw[hek k om]at hv⊢;rw[hg0];exact λq=>htk k hk hv q.symm
  ·rw [hek j ej]at hu⊢;by_cases ek:k=k0
   ·subst ek;rw[hg0];exact htk j om hu
   ·rw [hek k ek]at hv⊢;exact c.lk j k hj hk hu hv
 ·have key:∀i:Nat,Js g (b:Nat) i->Js f (b:Nat) i:=by
   intro i ⟨a1,a2,a3⟩;rw[hi]at a1 a2;refine⟨a1,a2,?_⟩;rcases a3 with a3|⟨k,hk,hu,e'⟩
   ·exact .inl a3
   ·by_cases ek:k=k0
    ·subst ek;rw[hg0]at e';rw[<-e']at a2;exact absurd a2 (hb b h0')
    ·rw [hek k ek]at hu e';exact .inr ⟨k,hk,hu,e'⟩
  exact c.ow b h0' h1 i j hij hj (key i o1) (key j o2)
theorem Cln.del(c:Cln f){k0:Nat}(hk0:k0<24)(hu0:(QA f (k0:Nat)).u=true)(hs:Q5 (g (17+(k0:Nat)))=true)(hg0:(QA g (k0:Nat)).u=false)(he:∀j:Int,j≠(k0:Nat)->QA g j=QA f j)
  (ho:∀k:Nat,k≠k0->k<24->Q5 (g (17+(k:Nat)))=Q5 (f (17+(k:Nat)))) (hi:∀n,QF g n=QF f n) (hn:∀k:Nat,k<24->(QA f (k:Nat)).u=true->(QA f (k:Nat)).p≠(QA f (k0:Nat)).t):Cln g:=by
 have hne:∀k:Nat,(QA g (k:Nat)).u=true->k≠k0:=λk hu e=>by rw[e,hg0]at hu;cases hu
 have hek:∀k:Nat,k≠k0->QA g (k:Nat)=QA f (k:Nat):=λk hk=>he _ om;have hr:∀n,ZU f n->n≠(QA f (k0:Nat)).t->ZU g n:=by
  intro n h;induction h with
  |root=>exact λ_=> .root
  |step k hk' hu hp h2 ih=>
   intro hne';have ek:=hek k (λe=>hne' (by rw[e]));have:=ZU.step (f:=g) k hk' (by rw[ek];exact hu) (by rw[ek];exact ih (hn k hk' hu)) (by rw[ek,hi];exact h2);rw[ek]at this;exact this
 refine⟨λk hk=>?_,λk hk hu=>?_,λk hk hu=>?_,λj k hj hk hu hv hp=>?_,λj k hj hk hu hv=>?_,λb h0' h1 i j hij hj o1 o2=>?_⟩
 ·by_cases e':k=k0
  ·subst e';exact hs
  ·rw [ho k e' hk];exact c.od k hk
 ·have e:=hek k (hne k hu);rw[hi,e];rw[e]at hu;exact c.dg k hk hu
 ·have e:=hek k (hne k hu);rw[hi,e];rw[e]at hu;have:=c.sd k hk hu;exact⟨hr _ this.1 (hn k hk hu),this.2⟩
 ·have ej:=hek j (hne j hu);have ek:=hek k (hne k hv);rw[ej]at hu hp⊢;rw[ek]at hv hp⊢;exact c.db j k hj hk hu hv hp
 ·have ej:=hek j (hne j hu);have ek:=hek k (hne k hv);rw[ej]at hu⊢;rw[ek]at hv⊢;exact c.lk j k hj hk hu hv
 ·have key:∀i:Nat,Js g (b:Nat) i->Js f (b:Nat) i:=by
   intro i ⟨a1,a2,a3⟩;rw[hi]at a1 a2;refine⟨a1,a2,?_⟩;rcases a3 with a3|⟨k,hk,hu,e'⟩
   ·exact .inl a3
   ·have e:=hek k (hne k hu);rw[e]at hu e';exact .inr ⟨k,hk,hu,e'⟩
  exact c.ow b h0' h1 i j hij hj (key i o1) (key j o2)
inductive QFr(f:Int->List UInt8)(P:Nat->Prop):Int->Prop
 |root:QFr f P 0
 |step(k:Nat)(hk:k<24)(hP:P k)(hu:(QA f (k:Nat)).u=true)(hp:QFr f P (QA f (k:Nat)).p)(h2:(QF f (QA f (k:Nat)).p).k=2):QFr f P (QA f (k:Nat)).t
theorem QNX{P:Nat->Prop}(h:ZU f n)(h2:(QF f n).k=2)(hP:∀k:Nat,k<24->(QA f (k:Nat)).u=true->(QF f (QA f (k:Nat)).t).k=2->P k):QFr f P n:=by
 induction h with
 |root=>exact .root
 |step k hk hu hp h2' ih=>exact .step k hk (hP k hk hu h2) hu (ih h2') h2'
theorem Cln.mov(c:Cln f){kb:Nat}(hka:ka<24)(hkb:kb<24)(hab:ka≠kb)(hua:(QA f (ka:Nat)).u=true){e:Ent}(heu:e.u=true)(het:e.t=(QA f (ka:Nat)).t)
  (hsa:Q5 (g (17+(ka:Nat)))=true) (hsb:Q5 (g (17+(kb:Nat)))=true) (hga:(QA g (ka:Nat)).u=false) (hgb:QA g (kb:Nat)=e) (he:∀j:Int,j≠(ka:Nat)->j≠(kb:Nat)->QA g j=QA f j)
  (ho:∀k:Nat,k≠ka->k≠kb->k<24->Q5 (g (17+(k:Nat)))=Q5 (f (17+(k:Nat)))) (hi:∀n,QF g n=QF f n)
  (hb2:(QA f (kb:Nat)).u=true->(QF f (QA f (kb:Nat)).t).k≠2) (hp:QFr f (λk=>k≠ka/\k≠kb) e.p) (h2:(QF f e.p).k=2)
  (hn:∀k:Nat,k<24->k≠ka->k≠kb->(QA f (k:Nat)).u=true->(QA f (k:Nat)).p=e.p->(QA f (k:Nat)).n≠e.n):Cln g:=by
 have hek:∀k:Nat,k≠ka->k≠kb->QA g (k:Nat)=QA f (k:Nat):=λk h1 h2=>he _ om om;have hne:∀k:Nat,(QA g (k:Nat)).u=true->k≠ka:=λk hu e=>by rw[e,hga]at hu;cases hu
 have hr1:∀n,QFr f (λk=>k≠ka/\k≠kb) n->ZU g n:=by
  intro n h;induction h with
  |root=>exact .root
  |step k hk' hP hu hp h2 ih=>
   have ek:=hek k hP.1 hP.2;have:=ZU.step (f:=g) k hk' (by rw[ek];exact hu) (by rw[ek];exact ih) (by rw[ek,hi];exact h2);rw[ek]at this;exact this
 have hT:ZU g e.t:=by
  have:=ZU.step (f:=g) kb hkb (by rw[hgb];exact heu) (by rw[hgb];exact hr1 _ hp) (by rw[hgb,hi];exact h2);rw[hgb]at this;exact this
 have hr:∀n,ZU f n->(QF f n).k=2->ZU g n:=by
  intro n h;induction h with
  |root=>exact λ_=> .root
  |step k hk' hu hp h2 ih=>
   intro h2';by_cases ea:k=ka
   ·subst ea;rw[<-het];exact hT
   ·by_cases eb:k=kb
    ·subst eb;exact absurd h2' (hb2 hu)
    ·have ek:=hek k ea eb;have:=ZU.step (f:=g) k hk' (by rw[ek];exact hu) (by rw[ek];exact ih h2) (by rw[ek,hi];exact h2);rw[ek]at this;exact this
 refine⟨λk hk=>?_,λk hk hu=>?_,λk hk hu=>?_,λj k hj hk hu hv hpp=>?_,λj k hj hk hu hv=>?_,λb h0' h1 i j hij hj o1 o2=>?_⟩
 ·by_cases ea:k=ka
  ·subst ea;exact hsa
  ·by_cases eb:k=kb
   ·subst eb;exact hsb
   ·rw [ho k ea eb hk];exact c.od k hk
 ·have ea:=hne k hu;rw[hi];by_cases eb:k=kb
  ·subst eb;rw[hgb,het];exact c.dg ka hka hua
  ·rw [hek k ea eb]at hu⊢;exact c.dg k hk hu
 ·have ea:=hne k hu;rw[hi];by_cases eb:k=kb
  ·subst eb;rw[hgb];exact⟨hr1 _ hp,h2⟩
  ·rw [hek k ea eb]at hu⊢;have:=c.sd k hk hu;exact⟨hr _ this.1 this.2,this.2⟩
 ·have ja:=hne j hu;have ka':=hne k hv;by_cases jb:j=kb
  ·subst jb;rw[hek k ka' om]at hv hpp⊢;rw[hgb]at hpp⊢;exact λq=>hn k hk ka' om hv hpp.symm q.symm
  ·rw [hek j ja jb]at hu hpp⊢;by_cases kb':k=kb
   ·subst kb';rw[hgb]at hpp⊢;exact hn j om ja jb hu hpp
   ·rw [hek k ka' kb']at hv hpp⊢;exact c.db j k hj hk hu hv hpp
 ·have ja:=hne j hu;have ka':=hne k hv;by_cases jb:j=kb
  ·subst jb;rw[hek k ka' om]at hv⊢;rw[hgb,het];exact c.lk' (λq=>ka' q.symm) hka hk hua hv
  ·rw [hek j ja jb]at hu⊢;by_cases kb':k=kb
   ·subst kb';rw[hgb,het];exact c.lk' ja om hka hu hua
   ·rw [hek k ka' kb']at hv⊢;exact c.lk j k hj hk hu hv
 ·have key:∀i:Nat,Js g (b:Nat) i->Js f (b:Nat) i:=by
   intro i ⟨a1,a2,a3⟩;rw[hi]at a1 a2;refine⟨a1,a2,?_⟩;rcases a3 with a3|⟨k,hk,hu,e'⟩
   ·exact .inl a3
   ·have ea:=hne k hu;by_cases eb:k=kb
    ·subst eb;rw[hgb,het]at e';exact .inr ⟨ka,hka,hua,e'⟩
    ·rw [hek k ea eb]at hu e';exact .inr ⟨k,hk,hu,e'⟩
  exact c.ow b h0' h1 i j hij hj (key i o1) (key j o2)
theorem Cln.nam(c:Cln f)(hka:ka<24)(hua:(QA f (ka:Nat)).u=true){e:Ent}(heu:e.u=true)(het:e.t=(QA f (ka:Nat)).t)(hep:e.p=(QA f (ka:Nat)).p)
  (hsa:Q5 (g (17+(ka:Nat)))=true) (hga:QA g (ka:Nat)=e) (he:∀j:Int,j≠(ka:Nat)->QA g j=QA f j)
  (ho:∀k:Nat,k≠ka->k<24->Q5 (g (17+(k:Nat)))=Q5 (f (17+(k:Nat)))) (hi:∀n,QF g n=QF f n)
  (hn:∀k:Nat,k<24->k≠ka->(QA f (k:Nat)).u=true->(QA f (k:Nat)).p=e.p->(QA f (k:Nat)).n≠e.n):Cln g:=by
 have hek:∀k:Nat,(QA g (k:Nat)).u=(QA f (k:Nat)).u/\(QA g (k:Nat)).p=(QA f (k:Nat)).p/\(QA g (k:Nat)).t=(QA f (k:Nat)).t:=by
  intro k;by_cases e':k=ka
  ·subst e';rw[hga];exact⟨by rw[heu,hua],hep,het⟩
  ·rw [he _ om];exact⟨rfl,rfl,rfl⟩
 have hen:∀k:Nat,k≠ka->(QA g (k:Nat)).n=(QA f (k:Nat)).n:=λk hk=>by rw[he _ om]
 have hr:∀n,ZU f n->ZU g n:=by
  intro n h;induction h with
  |root=>exact .root
  |step k hk' hu hp h2 ih=>
   have:=ZU.step (f:=g) k hk' (by rw[(hek k).1];exact hu) (by rw[(hek k).2.1];exact ih) (by rw[(hek k).2.1,hi];exact h2);rw[(hek k).2.2]at this;exact this
 refine⟨λk hk=>?_,λk hk hu=>?_,λk hk hu=>?_,λj k hj hk hu hv hp=>?_,λj k hj hk hu hv=>?_,λb h0' h1 i j hij hj o1 o2=>?_⟩
 ·by_cases e':k=ka
  ·subst e';exact hsa
  ·rw [ho k e' hk];exact c.od k hk
 ·rw [(hek k).1]at hu;rw[hi,(hek k).2.2];exact c.dg k hk hu
 ·rw [(hek k).1]at hu;rw[hi,(hek k).2.1];have:=c.sd k hk hu;exact⟨hr _ this.1,this.2⟩
 ·rw [(hek j).1]at hu;rw[(hek k).1]at hv;rw[(hek j).2.1,(hek k).2.1]at hp;by_cases ej:j=ka
  ·subst ej;rw[hga,hen k om];exact λq=>hn k hk om hv (by rw[hep];exact hp.symm) q.symm
  ·by_cases ek:k=ka
   ·subst ek;rw[hga,hen j ej];exact hn j om ej hu (by rw[hep];exact hp)
   ·rw [hen j ej,hen k ek];exact c.db j k hj hk hu hv hp
 ·rw [(hek j).1]at hu;rw[(hek k).1]at hv;rw[(hek j).2.2,(hek k).2.2];exact c.lk j k hj hk hu hv
 ·have key:∀i:Nat,Js g (b:Nat) i->Js f (b:Nat) i:=by
   intro i ⟨a1,a2,a3⟩;rw[hi]at a1 a2;refine⟨a1,a2,?_⟩;rcases a3 with a3|⟨k,hk,hu,e'⟩
   ·exact .inl a3
   ·rw [(hek k).1]at hu;rw[(hek k).2.2]at e';exact .inr ⟨k,hk,hu,e'⟩
  exact c.ow b h0' h1 i j hij hj (key i o1) (key j o2)
end
def usK(f:Int->List UInt8)(k:Nat)(b:Int):Bool:=(List.range k).any λn:Nat=>decide (Q1 f (n:Nat))&&decide (b∈Zt (QF f (n:Nat)))
variable {f:Int->List UInt8}
theorem QRS(h:¬Q1 f (k:Nat))(b:Int):usK f (k+1) b=usK f k b:=by
 unfold usK;rw[x3,jj];simp[h]
theorem QPV(h:Q1 f (k:Nat))(b:Int):usK f (k+1) b=(usK f k b||decide (b∈Zt (QF f (k:Nat)))):=by
 unfold usK;rw[x3,jj];simp[h]
def mkS(v:Int->Bool)(R:List Bool)(l:List Int):List Bool:=l.foldl (λR b=>R.set b.toNat (v b)) R
theorem QKF(v:Int->Bool):∀(l:List Int) (R:List Bool),(mkS v R l).length=R.length
 |[],R=>rfl
 |b::t,R=>by
  show(mkS v (R.set b.toNat (v b)) t).length=_;rw[QKF v t,wp]
theorem QKG(v:Int->Bool){j:Nat}:∀(l:List Int) (R:List Bool),j<R.length->(∀b∈l,0<=b)->(mkS v R l).getD j false=if(j:Int)∈l then v (j:Nat)else R.getD j false
 |[],R,_,_=>by rw[if_neg (by simp)];rfl
 |b::t,R,hj,hb=>by
  have hb0:=hb b zm;show(mkS v (R.set b.toNat (v b)) t).getD j false=_;rw[QKG v t _ (by rw[wp];exact hj) λx hx=>hb x (zi _ hx)];by_cases ht:(j:Int)∈t
  ·rw [if_pos ht,if_pos (zi _ ht)]
  ·rw [if_neg ht,zo,jw];by_cases hbj:b.toNat=j
   ·rw [if_pos hbj,if_pos om,if_pos (by rw[show(j:Int)=b by omega];exact zm),show(j:Int)=b by omega];rfl
   ·rw [if_neg hbj,if_neg (by rw[zj];rintro(h|h);omega;exact ht h),zo]
theorem QNY(v:Int->Bool)(R:List Bool)(l:List Int)(b:Int):mkS v R (l++[b])=(mkS v R l).set b.toNat (v b):=by
 unfold mkS;rw[vr];rfl
theorem QNZ(h:RI x):∀b∈Zt x,0<=b/\b<25:=by
 intro b hb;unfold Zt at hb;simp only[zj,yz,or_false]at hb;rcases h with h|h
 ·rcases hb with rfl|rfl|rfl|rfl<;>omega
 ·rcases hb with rfl|rfl|rfl|rfl<;>omega
theorem QNa{x:Ino}:∀i,i<4->(Zt x)[i]? =some (ZP x i)
 |0,_=>rfl
 |1,_=>rfl
 |2,_=>rfl
 |3,_=>rfl
 |i+4,h=>by omega
def QEr(b:Int):Bool:=decide (b>0)
def uO(f:Int->List UInt8):List Bool:=(List.range 25).map λb:Nat=>decide (0<b)&&QBH f (b:Nat)
theorem QS3(f:Int->List UInt8)(j:Nat)(h:j<(uO f).length):(uO f)[j]=(decide (0<j)&&QBH f (j:Nat)):=by simp only[uO,zy,wh]
theorem QS4(hl:R.length=25)(h:∀j:Nat,j<25->R.getD j false=(decide (0<j)&&usK f 16 (j:Nat))):R=uO f:=by
 refine vy (by rw[hl];unfold uO;simp) λj h1 h2=>?_;rw[QS3];rw[hl]at h1;have:=h j h1;rw[zo,zk om]at this;exact this
def bkS(E:D)(J R:List Bool)(k:Nat):S:=⟨[(0,.d E),(2,.ptr 0 0),(3,.ptr 1 0),(9,.dg 16 (J.map D.bl)),(10,.d (.it .i64 (k:Nat)))],[(0,.cells 25 (((List.replicate 25 false).map D.bl).map .d)),(1,.cells 25 ((R.map D.bl).map .d))],2⟩
theorem QIt(E:D)(J R:List Bool)(k:Nat):(bkS E J R k).ok=true:=by
 unfold bkS;simp only[S.ok,xc,xv,Ob.lt,XX];rfl
def QRT(E:D)(J R:List Bool)(k:Nat)(B:List D)(i:Nat):S:=⟨[(0,.d E),(2,.ptr 0 0),(3,.ptr 1 0),(9,.dg 16 (J.map D.bl)),(10,.d (.it .i64 (k:Nat))),(19,.dg 4 B),(20,.d (.it .i64 (i:Nat)))],[(0,.cells 25 (((List.replicate 25 false).map D.bl).map .d)),(1,.cells 25 ((R.map D.bl).map .d))],2⟩
theorem QKH(E:D)(J R:List Bool)(k:Nat)(B:List D)(i:Nat):(QRT E J R k B i).ok=true:=by
 unfold QRT;simp only[S.ok,xc,xv,Ob.lt,XX];rfl
theorem QLf(d:Option Dk)(hd:Zs d):FnC Tryz.prog 199 [.d (QQ d)] (.dg 25 ((uO (rdS d)).map D.bl)):=by
 have hi:=QEk d hd;have hJ:=QMx (rdS d);have hJl:=QDa (rdS d) 24;have he:=λn=>YD d hd n;have hRI:=λn=>J1 (rdS d) n;generalize iR (rdS d) 24=J at*
 generalize QQ d=E at*
 refine QK QUC ?_;(repeat' (conv=>whnf);first|refine cEk hi ?_|refine gOI ?_|intro x hx hu|intro h|apply sS);conv=>whnf
 refine Qu QE (λx:Nat×List Bool=>x.1<=16/\x.2.length=25/\∀j:Nat,j<25->x.2.getD j false=(decide (0<j)&&usK (rdS d) x.1 (j:Nat))) (fun|(k,R)=>bkS E J R k) (λx=>16-x.1) (0,List.replicate 25 false) ⟨yc _,rfl,λj hj=>by rw[zo,jv,if_pos hj];show false=(_&&false);rw[Bool.and_false]⟩ ⟨rr,ai (Qo rfl wu) (ai (Qo rfl wu) trivial),QIt ..⟩ ?_;intro⟨k,R⟩ hk0;have hk:=hk0.1;have hl:=hk0.2.1;have hR:=hk0.2.2;dsimp only at hk hl hR;by_cases hk16:k<16
 ·obtain ⟨r,hr⟩:=Q8 (l:=J) (k:=k) om;have hrt:r=decide (Q1 (rdS d) (k:Nat)):=by
   have:=hr;rw[hJ,y8,jg hk16]at this;exact(za this).symm
  cases r with
  |false=>
   have hno:¬Q1 (rdS d) (k:Nat):=of_decide_eq_false hrt.symm;(repeat' (conv=>whnf);first|refine AtA.eq (QOt hr rfl rfl) ?_|refine QC ?_|intro x hx hu|intro h|apply sS);refine again (k+1,R) ⟨hk16,hl,λj hj=>by rw[QRS hno];exact hR j hj⟩ (by first|omega|(dsimp only;omega)) (ai rfl (ai rfl (ai rfl (ai rfl (ai (QM (by first|omega|(dsimp only;omega))) trivial))))) rr (QIt ..)
  |true=>
   have hyes:Q1 (rdS d) (k:Nat):=of_decide_eq_true hrt.symm;have hx:=he (k:Nat);have hxR:=hRI (k:Nat);have hus:=λb=>QPV hyes b;generalize QF (rdS d) (k:Nat)=x at*
   have hbr:=QNZ hxR;have hbg:= @QNa x;have hxe:ZM x=[.it .i64 x.k,.it .i64 x.z,.it .i64 x.b0,.it .i64 x.b1,.it .i64 x.b2,.it .i64 x.b3]:=rfl;rw[hxe]at hx;(repeat' (conv=>whnf);first|refine AtA.eq (QOt hr rfl rfl) ?_|refine cEk hx ?_|refine QC ?_|intro x hx hu|intro h|apply sS);conv=>whnf
   refine Qu QE (λy:Nat×List Bool=>y.1<=4/\y.2=mkS QEr R ((Zt x).take y.1)) (fun|(i,R')=>QRT E J R' k [.it .i64 x.b0,.it .i64 x.b1,.it .i64 x.b2,.it .i64 x.b3] i) (λy=>4-y.1) (0,R) ⟨yc _,rfl⟩ ⟨rr,rr,QKH ..⟩ ?_;intro⟨i,R'⟩ hi0;have hi4:=hi0.1;have hR':=hi0.2;dsimp only at hi4 hR';have hl':R'.length=25:=by rw[hR',QKF];exact hl
   by_cases hi44:i<4
   ·have hb:=hbg i hi44;have hbr':=hbr _ (yw hb);have hst:R'.set (ZP x i).toNat (QEr (ZP x i))=mkS QEr R ((Zt x).take (i+1)):=by rw[ZF hb,QNY,<-hR']
    have htl:(ZP x i).toNat<R'.length:=by omega
    have hi3:i=0\/i=1\/i=2\/i=3:=by omega
    rcases hi3 with rfl|rfl|rfl|rfl;all_goals (
     replace hst:R'.set _ _=_:=hst;simp only[ZP]at hst hbr' htl;(repeat' (conv=>whnf);first|refine QC ?_|intro x hx hu|intro h|apply sS);refine again (_+1,R'.set _ (QEr _)) ⟨by omega,hst⟩ (by first|omega|(dsimp only;omega)) (ai rfl (ai rfl (ai rfl (ai rfl (ai rfl (ai rfl (ai (QM (by first|omega|(dsimp only;omega))) trivial))))))) (ai rfl (ai (Qo rfl (stR htl rfl rfl)) trivial)) (QKH ..))
   ·have hi:i=4:=by omega
    have hall:(Zt x).take i=Zt x:=by rw[hi];rfl
    rw[hall]at hR';(repeat' (conv=>whnf);first|refine QC ?_|intro x hx hu|intro h|apply sS);refine again (k+1,R') ⟨hk16,hl',λj hj=>?_⟩ (by first|omega|(dsimp only;omega)) (ai rfl (ai rfl (ai rfl (ai rfl (ai (QM (by first|omega|(dsimp only;omega))) trivial))))) rr (QIt ..);rw[hR',QKG QEr _ _ om (λb hb=>(hbr b hb).1),hus];by_cases hm:((j:Nat):Int)∈Zt x
    ·rw [if_pos hm,decide_eq_true hm,Bool.or_true,wx];unfold QEr;rw[wj,decide_eq_true_eq,decide_eq_true_eq];omega
    ·rw [if_neg hm,decide_eq_false hm,Bool.or_false];exact hR j hj
 ·have h16:k=16:=by omega
  rw[h16]at hR;have hfin:=QS4 hl hR;(repeat' (conv=>whnf);first|refine AtA.eq (QSw hl rfl rfl) ?_|refine QC ?_|intro x hx hu|intro h|apply sS);conv=>whnf
  generalize hv:ldA _ 0 _=v;have hv':v= .dg 25 (R.map D.bl):=by
   rw[<-hv];refine(congrArg _ (show _=(R.map D.bl).map AV.d by show []++_++[]=_;rw[y6,xh])).trans (QSw hl rfl rfl)
  rw[hv'];show AV.dg 25 (R.map D.bl)=_;rw[hfin]
theorem QS5(h:∀j:Nat,1<=j->j<25->mk j=QBH f (j:Nat)):(FL mk 1 25).map (λi:Nat=>(i:Int))=frA f:=by
 unfold FL frA;rw[List.range'_eq_map_range,List.filter_map,qc];have e:(List.range 24).filter ((λj=> !(mk j))∘λx=>1+x)=(List.range 24).filter λi:Nat=> !(QBH f ((i+1:Nat):Int)):=by
  refine List.filter_congr λi hi=>?_;have h24:=yj.1 hi;show(!(mk (1+i)))=_;rw[h (1+i) om om,qh]
 show List.map _ ((List.range (25-1)).filter _)=_;rw[show 25-1=24 from rfl,e];refine qk λi _=>?_;show((1+i:Nat):Int)=((i+1:Nat):Int);rw[qh]
theorem QS6(l:List Nat):vN l=vI (l.map λi:Nat=>(i:Int)):=by
 unfold vN vI;rw[qc];rfl
theorem QS7(h:∀j:Nat,1<=j->j<25->mk j=QBH f (j:Nat))(n:Nat):vN ((FL mk 1 25).take n)=vI (frB f n):=by
 rw[QS6,vk,QS5 h];rfl
theorem QRU(f:Int->List UInt8)(j:Nat)(h1:1<=j)(h2:j<25):(uO f).getD j false=QBH f (j:Nat):=by
 unfold uO;rw[zo,y8,jg h2];show(decide (0<j)&&_)=_;rw[decide_eq_true om,xl]
theorem QQF(n:Nat)(J:List Bool):(AV.dg n (J.map D.bl)).flatP=true:=by
 show(J.map D.bl).all D.flat=true;rw[zb];intro x hx;obtain⟨b,_,rfl⟩:=ye.1 hx;rfl
def frV(l:List Int)(n:Nat):AV:=if l.length=n then .tup [.d (.fs 1 (vI l)),.d (.bl true)]else .tup [.d (.fs 1 []),.d (.bl false)]
theorem QRV(l:List Int):(vI l).length=l.length:=ze ..
variable {bad:List Int}
theorem QKI{b:Bool}(h:Fd bad d N)(n:Nat)(hn:n<=100):FnH Tryz.prog 158 [.ptr 0 0,.d (.it .i64 (n:Nat))] (JK b bad d) 5 [0] (frV (frB (rdS (some d)) n) n) (JK b bad d) 5:=by
 have hi:=QLf (some d) h.ok;have hul:(uO (rdS (some d))).length=25:=by unfold uO;simp
 have hF:=QLR (uO (rdS (some d))) hul 1 25 n (by decide) om (by decide);rw[QS7 (QRU _) n]at hF;generalize uO (rdS (some d))=J at*
 have hl:=QRV (frB (rdS (some d)) n);unfold frV;generalize frB (rdS (some d)) n=l at*
 replace hF:FnH Tryz.prog 196 [.d (.it .i64 1),.d (.it .i64 25),.d (.it .i64 (n:Nat)),.fn (.func 200) [] [.ptr 0 0]] [(0,.cells 25 ((J.map D.bl).map .d))] 1 [0] (.d (.fs 1 (vI l))) [(0,.cells 25 ((J.map D.bl).map .d))] 1:=hF;by_cases hc:l.length=n
 ·rw [if_pos hc];refine QV QSH λT=>?_;(repeat' (conv=>whnf);first|refine CallI.byR (JB.mkF ⟨_,_,ArF.fr _ _ _ _ (frD wu wu) ArF.nil,hi,QQF _ _,?_⟩)|refine CallI.byH hF [8] wu ⟨rfl,by decide,by with_unfolding_all exact rfl⟩ (ai (Qo rfl (by show []++_++[]=_;rw[y6,xh];exact(QFi _ _).symm)) trivial) rfl rfl ?_|refine gOI ?_|intro x hx hu|intro h|apply sS);all_goals try omega
  exact QO
 ·rw [if_neg hc];refine QV QSH λT=>?_;(repeat' (conv=>whnf);first|refine CallI.byR (JB.mkF ⟨_,_,ArF.fr _ _ _ _ (frD wu wu) ArF.nil,hi,QQF _ _,?_⟩)|refine CallI.byH hF [8] wu ⟨rfl,by decide,by with_unfolding_all exact rfl⟩ (ai (Qo rfl (by show []++_++[]=_;rw[y6,xh];exact(QFi _ _).symm)) trivial) rfl rfl ?_|refine gOI ?_|intro x hx hu|intro h|apply sS);all_goals try omega
  refine⟨⟨[(4,.d (.fs 1 [])),(5,.d (.bl false))],JK b bad d++Qv 5 [0] T,30⟩,Wk.vwL (ai (Vw.ts' rfl) (ai (Vw.eq rfl) trivial)) (ai (VwO.same _) (ai (VwO.same _) (ai (VwO.same _) (ai (VwO.same _) (ai (VwO.same _) (ai (VwO.same _) (ai (VwO.same _) trivial))))))) rfl,rfl,rr,rr⟩
variable {s c p:List UInt8}
theorem QDg{a:Nat}(h:a+c.length<=s.length):((QJ s).map AV.d).take a++(QJ c).map AV.d++((QJ s).map AV.d).drop (a+c.length)=(QJ (QEK s a c)).map AV.d:=by
 unfold QEK QJ;simp only[yh,vk,ut]
theorem QAj{ty:Ty}{a:List AV}(hx:a=(QJ s).map AV.d)(h:s.length=32)(ha:ty.kd.agg=true)(hz:ty.size=32):ldA ty 0 a= .dg 32 (QJ s):=by
 rw[hx];unfold ldA;rw[ha,cond_true,hz,v7,yd (by rw[ze,XY,h];exact zr _)];unfold QDo;rw[XB]
theorem QHR(c:List UInt8):(QG c).flatten=QJ c:=by
 unfold QG QJ;induction c with
 |nil=>rfl
 |cons b t ih=>simp only[ve,vl,ih,Wy]
variable {C L:List AV}
theorem QRW{a:Nat}(hC:C=(QJ s).map AV.d)(ho:o=a)(hq:q=a+c.length)(h:a+c.length<=s.length):(QJ (QEK s a c)).map AV.d=C.take o++(QG c).flatten.map AV.d++C.drop q:=by
 rw[hC,ho,hq,QHR,QDg h]
theorem letC_id{e:List AV}{K:List AV->Prop}(h:XU e K):XU e K:=h
theorem QPW(s:List UInt8)(hs:s.length=32)(a:Nat)(c:List UInt8)(h:a+c.length<=32):FnC Tryz.prog 159 [.dg 32 (QJ s),.d (.it .i64 (a:Nat)),.d (.fs 1 (QG c))] (.tup [.dg 32 (QJ (QEK s a c)),.d (.bl true)]):=by
 have hl:=QMr (s:=s) (a:=a) (c:=c) om;have hpc:=QDg (s:=s) (a:=a) (c:=c) om;have hbl:(QG c).length=c.length:=ze ..;have hf:=QFP (a:Nat) ((QG c).length:Nat);rw[decide_eq_true om]at hf;obtain⟨g,hg⟩:=JZ hs;subst hg;refine QK QSI ?_;(repeat' (conv=>whnf);first|refine cEk hf ?_|(refine XU.mk ((QJ (QEK (Zu g) a c)).map AV.d) (QRW wu (by show 0+((a:Nat):Int).toNat*1=a;omega) (by show 0+((a:Nat):Int).toNat*1+(QG c).length*1=a+c.length;omega) h) ?_)|refine AtA.eq (QAj rfl (hl.trans hs) rfl rfl) ?_|refine QC ?_|intro x hx hu|intro h|apply sS);conv=>whnf
 generalize hv:ldA _ 0 _=v;have hv':v= .dg 32 (QJ (QEK (Zu g) a c)):=by
  rw[<-hv];refine QAj ?_ (hl.trans hs) rfl rfl;show []++_++[]=_;rw[y6,xh]
 rw[hv'];rfl
theorem QPX{j:Int}(h:j∈frA f):1<=j/\j<=24:=by
 unfold frA at h;obtain⟨i,hi,rfl⟩:=ye.1 h;have:=yj.1 (xj.1 hi).1;omega
theorem QBO{n:Nat}{j:Int}(h:j∈frB f n):1<=j/\j<=24:=QPX (xd h)
theorem QPY{fr:List Int}(h:∀j∈fr,1<=j/\j<=24)(i:Nat)(e:Int)(he:0<=e/\e<=24):0<=fr.getD i e/\fr.getD i e<=24:=by
 rw[zo];by_cases hi:i<fr.length
 ·rw [zk hi];have:=h _ (zt hi);exact⟨by show 0<=fr[i];omega,by show fr[i]<=24;omega⟩
 ·rw [vg om];exact he
theorem QC4{fr:List Int}(h:∀j∈fr,1<=j/\j<=24)(i:Nat)(he:0<=ZP x i/\ZP x i<=24):0<=QDV x had fr i/\QDV x had fr i<=24:=by
 unfold QDV;split
 ·exact QPY h _ _ he
 ·exact he
theorem QBP(h:RI x)(i:Nat):0<=ZP x i/\ZP x i<=24:=by
 have:(0<=x.b0/\x.b0<=24)/\(0<=x.b1/\x.b1<=24)/\(0<=x.b2/\x.b2<=24)/\(0<=x.b3/\x.b3<=24):=by
  rcases h with h|h
  ·omega
  ·omega
 obtain⟨h0,h1,h2,h3⟩:=this
 match i with
 |0=>exact h0
 |1=>exact h1
 |2=>exact h2
 |i+3=>exact h3
theorem QKJ(hx:RI x){fr:List Int}(h:∀j∈fr,1<=j/\j<=24)(z:Int)(i:Nat):0<=ZP (Xk x z had fr) i/\ZP (Xk x z had fr) i<=24:=by
 match i with
 |0=>exact QC4 h 0 (QBP hx 0)
 |1=>exact QC4 h 1 (QBP hx 1)
 |2=>exact QC4 h 2 (QBP hx 2)
 |i+3=>exact QC4 h 3 (QBP hx 3)
theorem QLg(c:List UInt8)(i j:Nat):QG ((c.drop i).take j)=((QG c).take (i+j)).drop i:=by
 unfold QG;rw[vk,ut,<-List.take_drop]
theorem QS8(h0:32*(k:Int)<=a)(h1:a<32*(k:Int)+32)(hk:k<=100):IntKind.i64.wrap (Int.tdiv a 32)=(k:Int):=by
 have e:Int.tdiv a 32=(k:Int):=by
  rw[jd om];omega
 rw[e,ju _ om]
theorem QS9(h0:32*(k:Int)<=a)(h1:a<32*(k:Int)+32):Int.tmod a 32=(((a-32*(k:Int)).toNat:Nat):Int):=by
 rw[qu om];omega
theorem QKK{b:List UInt8}(hy:∀i,0<=ZP y i/\ZP y i<=24):∀s∈XJ f n x y had off b k,QFf s:=by
 intro s hs;unfold XJ at hs;obtain⟨i,_,rfl⟩:=ye.1 hs;unfold QOy;have:=hy i;exact⟨QBI _ _ _ _,by show(0:Int)<=40+ZP y i;omega,by show 40+ZP y i<(65:Int);omega⟩
theorem QDh{f:Int->List UInt8}{n:Int}{x y:Ino}{had:Nat}{off:Int}{b:List UInt8}{k:Nat}:(XJ f n x y had off b k).length<=k:=by
 unfold XJ;rw[ze];exact y9 (wq _ _) (by rw[yy];exact zr _)
theorem Jb(h:XI f n s=some j):j<24/\QAr f n s j:=by
 unfold XI at h;obtain⟨h1,k,h2,h3,h4⟩:=kf.1 h;simp only[yy]at h2;simp only[wh]at h3 h4;subst h3;exact⟨h2,of_decide_eq_true h1⟩
theorem QC5(h:XI f n s=none)(hk:k<24):¬QAr f n s k:=by
 unfold XI at h;have:=jo.1 h k (yj.2 hk);exact λq=>this (decide_eq_true q)
theorem YG{α:Type}(l:List α):l=[]\/∃a s,l=a++[s]:=by
 rcases List.eq_nil_or_concat l with h|⟨a,s,h⟩
 ·exact .inl h
 ·exact .inr ⟨a,s,by rw[h,List.concat_eq_append]⟩
theorem QPZ(h:Jp f n s=(m,0)):(QF f n).k=2/\∃j,XI f n s=some j/\m=(QA f (j:Nat)).t:=by
 unfold Jp at h;by_cases h2:(QF f n).k=2
 ·rw [if_pos h2]at h;cases hk:XI f n s with
  |none=>rw[hk]at h;exact absurd (uk.1 h).2 (by show¬((4:Int)=0);decide)
  |some j=>rw[hk]at h;exact⟨h2,j,rfl,(uk.1 h).1.symm⟩
 ·rw [if_neg h2]at h;exact absurd (uk.1 h).2 (by show¬((6:Int)=0);decide)
variable {l:List (List UInt8)}
section
variable {f:Int->List UInt8}
theorem QKL:∀(a b:List (List UInt8)) (n m:Int),lkp f (a++b) n=(m,0)->∃q,lkp f a n=(q,0)/\lkp f b q=(m,0)
 |[],b,n,m,h=>⟨n,rfl,h⟩
 |s::t,b,n,m,h=>by
  rw[j6,lkp]at h;by_cases h0:(Jp f n s).2=0
  ·rw [if_pos h0]at h;obtain⟨q,h1,h2⟩:=QKL t b _ m h;exact⟨q,by rw[lkp,if_pos h0];exact h1,h2⟩
  ·rw [if_neg h0]at h;exact absurd (uk.1 h).2 h0
theorem QPa(h:lkp f [s] n=(m,0)):Jp f n s=(m,0):=by
 rw[lkp]at h;by_cases h0:(Jp f n s).2=0
 ·rw [if_pos h0,lkp]at h;exact Prod.ext (uk.1 h).1 h0
 ·rw [if_neg h0]at h;exact absurd (uk.1 h).2 h0
theorem QBQ(h:lkp f (l++[s]) 0=(n,0)):∃m j,lkp f l 0=(m,0)/\(QF f m).k=2/\XI f m s=some j/\j<24/\QAr f m s j/\n=(QA f (j:Nat)).t:=by
 obtain⟨m,h1,h2⟩:=QKL l [s] 0 n h;obtain⟨h3,j,h4,h5⟩:=QPZ (QPa h2);exact⟨m,j,h1,h3,h4,(Jb h4).1,(Jb h4).2,h5⟩
theorem QQG{P:Nat->Prop}:∀(N:Nat) (l:List (List UInt8)),l.length=N->∀n,lkp f l 0=(n,0)->(∀l1 s l2 m j,l=l1++[s]++l2->lkp f l1 0=(m,0)->XI f m s=some j->P j)->QFr f P n:=by
 intro N;induction N with
 |zero=>
  intro l hl n h hP;obtain rfl:=y4.1 hl;obtain rfl:(0:Int)=n:=(uk.1 h).1;exact .root
 |succ N ih=>
  intro l hl n h hP;rcases YG l with rfl|⟨l1,s,rfl⟩
  ·cases hl
  obtain⟨m,j,h1,h2,h3,h4,h5,h6⟩:=QBQ h;have hr:=ih l1 (by simpa using hl) m h1 (λa s' b m' j' e e1 e2=>hP a s' (b++[s]) m' j' (by rw[e];simp) e1 e2);have hj:=hP l1 s [] m j (by simp) h1 h3;have hu:=h5.1.1;have hp:=h5.1.2.1;subst h6;exact .step j h4 hj hu (by rw[hp];exact hr) (by rw[hp];exact h2)
theorem QRX{P:Nat->Prop}(h:QFr f P n):ZU f n:=by
 induction h with
 |root=>exact .root
 |step k hk hP hu hp h2 ih=>exact .step k hk hu ih h2
theorem QFs(h:lkp f l 0=(n,0)):ZU f n:=QRX (P:=λ_=>True) (QQG _ l rfl n h λ_ _ _ _ _ _ _ _=>trivial)
theorem QNb(c:Cln f):∀(N:Nat) (l l':List (List UInt8)) (n:Int),l.length=N->lkp f l 0=(n,0)->lkp f l' 0=(n,0)->l=l':=by
 have h0:∀(l:List (List UInt8)) (s:List UInt8),lkp f (l++[s]) 0≠(0,0):=by
  intro l s h;obtain⟨m,j,h1,h2,h3,h4,h5,h6⟩:=QBQ h;have:=(J3 h5.1.1).2.2.1;omega
 intro N;induction N with
 |zero=>
  intro l l' n hl h h';obtain rfl:=y4.1 hl;obtain rfl:(0:Int)=n:=(uk.1 h).1;rcases YG l' with rfl|⟨a,s,rfl⟩
  ·rfl
  ·exact absurd h' (h0 a s)
 |succ N ih=>
  intro l l' n hl h h';rcases YG l with rfl|⟨a,s,rfl⟩
  ·cases hl
  rcases YG l' with rfl|⟨a',s',rfl⟩
  ·obtain rfl:(0:Int)=n:=(uk.1 h').1;exact absurd h (h0 a s)
  obtain⟨m,j,h1,h2,h3,h4,h5,h6⟩:=QBQ h;obtain⟨m',j',g1,g2,g3,g4,g5,g6⟩:=QBQ h';have e:j=j':=by
   by_cases e:j=j'
   ·exact e
   ·exact absurd (h6.symm.trans g6) (c.lk' e h4 g4 h5.1.1 g5.1.1)
  subst e;have em:m=m':=h5.1.2.1.symm.trans g5.1.2.1;subst em;have es:s=s':=h5.2.symm.trans g5.2;subst es;rw[ih a a' m (by simpa using hl) h1 g1]
theorem QHS(h:(ZA f p).2=0):(QI p).2=0/\lkp f (QI p).1 0=((ZA f p).1,0):=by
 unfold ZA at h⊢;by_cases h0:(QI p).2=0
 ·rw [if_pos h0]at h⊢;exact⟨h0,Prod.ext rfl h⟩
 ·rw [if_neg h0]at h;exact absurd h h0
theorem QFt(h:(ZH f p).2=0):∃l s,(QI p).1=l++[s]/\(QI p).2=0/\Zh s=true/\lkp f l 0=((ZH f p).1.fo,0)/\(QF f (ZH f p).1.fo).k=2/\(ZH f p).1.nm=s/\(ZH f p).1.k=QLK (XI f (ZH f p).1.fo s):=by
 unfold ZH QOx at h⊢;by_cases h1:(Z4 p).2.2=0
 ·rw [if_neg (by simpa using h1)]at h⊢;by_cases h2:(ZA f (Z4 p).1).2=0
  ·rw [if_neg (by simpa using h2)]at h⊢;by_cases h3:(QF f (ZA f (Z4 p).1).1).k=2
   ·rw [if_neg (by simpa using h3)]at h⊢;dsimp only at h⊢;have hn:=Jz p;obtain⟨g1,g2⟩:=QHS h2;unfold Z4 at h1 g1 g2⊢;by_cases e1:(QI p).2=0
    ·rw [if_neg (by simpa using e1)]at h1 g1 g2⊢;by_cases e2:(QI p).1=[]
     ·rw [if_pos e2]at h1;exact absurd h1 (by decide)
     ·rw [if_neg e2]at h1 g1 g2⊢;dsimp only at g1 g2⊢;rcases YG (QI p).1 with e3|⟨l,s,e3⟩
      ·exact absurd e3 e2
      rw[e3]at hn g1 g2;rw[zb]at hn;rw[qi]at g1 g2;rw[QGz (λx hx=>hn.2.1 x (w8 _ hx)) (by have:=hn.1;rw[zu]at this;omega)]at g2;rw[e3,qi];have e4:(l++[s]).getLastD []=s:=by simp
      rw[e4];unfold Z4 at h3;rw[if_neg (by simpa using e1),if_neg e2,e3,qi]at h3;exact⟨l,s,rfl,e1,hn.2.1 s (by simp),g2,h3,rfl,rfl⟩
    ·rw [if_pos e1]at h1;exact absurd h1 e1
   ·rw [if_pos h3]at h;exact absurd h (by decide)
  ·rw [if_pos h2]at h;exact absurd h h2
 ·rw [if_pos h1]at h;exact absurd h h1
end
def Xr(f:Int->List UInt8):Prop:=f 0=Yj/\QBE (f 1)/\(Y5 (f 1)).k=2
def QAg(f:Int->List UInt8):Stp->Int->List UInt8
 | .wr w=>Zj f w.a w.s
 | .bar=>f
def plF(f:Int->List UInt8)(x:Pln):Int->List UInt8:=if x.1≠0 then f else x.2.foldl QAg f
def Hi2:Stp->Prop
 | .wr w=>2<=w.a
 | .bar=>True
theorem Jc{f:Int->List UInt8}(h:Xr f):∀(l:List Stp) {g:Int->List UInt8},g 0=f 0/\g 1=f 1->(∀s∈l,Hi2 s)->Xr (l.foldl QAg g)
 |[],g,e,_=>by
  show g 0=Yj/\QBE (g 1)/\(Y5 (g 1)).k=2;rw[e.1,e.2];exact h
 | .bar::l,g,e,hs=>Jc h l e λs hx=>hs s (zi _ hx)
 | .wr w::l,g,e,hs=>by
  have hw:2<=w.a:=hs _ zm;refine Jc h l (g:=Zj g w.a w.s) ⟨?_,?_⟩ λs hx=>hs s (zi _ hx)
  ·unfold Zj;rw[if_neg om];exact e.1
  ·unfold Zj;rw[if_neg om];exact e.2
theorem Xr.k0(h:Xr f):(QF f 0).k=2:=by
 unfold QF;rw[if_pos om];exact h.2.2
theorem QNc(h:(QF f n).k≠0):0<=n/\n<16:=by
 unfold QF at h;by_cases hn:0<=n/\n<16
 ·exact hn
 ·rw [if_neg hn]at h;exact absurd rfl h
structure QCp(f g:Int->List UInt8):Prop where
 c:Cln g
 m:Xr g
theorem ZV(c:Cln f)(m:Xr f){e:Int}(h:e≠0):QCp f (plF f (e,[])):=by
 unfold plF;rw[if_pos h];exact⟨c,m⟩
theorem QIu(c:Cln f)(m:Xr f):QCp f (plF f (0,[])):=⟨c,m⟩
theorem QEO(k:Nat)(h:a≠17+(k:Nat)):Q5 (Zj f a s (17+(k:Nat)))=Q5 (f (17+(k:Nat))):=by
 unfold Zj;rw[if_neg om]
theorem QNd(k:Nat):Zj f (17+(k:Nat)) s (17+(k:Nat))=s:=if_pos rfl
theorem QKM(c:Cln f)(m:Xr f)(p:List UInt8)(kind:Int)(hk12:kind=1\/kind=2):QCp f (plF f (mkP f p kind)):=by
 unfold mkP mkQ;by_cases h1:(ZH f p).2=0
 case neg=>rw[if_pos h1];exact ZV c m h1
 rw[if_neg (by simpa using h1)];by_cases h2:0<=(ZH f p).1.k
 ·rw [if_pos h2];exact ZV c m (by decide)
 rw[if_neg h2];obtain⟨l,s,e1,e2,hs,hl,hf,hnm,hk⟩:=QFt h1;generalize (ZH f p).1=a at*
 obtain⟨fo,nm,k⟩:=a;dsimp only at*
 subst hnm;have hno:XI f fo nm=none:=by
  cases hq:XI f fo nm with
  |none=>rfl
  |some j=>rw[hq]at hk;replace hk:k=(j:Nat):=hk;omega
 split
 case h_2=>exact ZV c m (by decide)
 rename_i n k0 hn hk0;have hn1:n<16/\¬Q1 f (n:Nat):=by
  unfold frI at hn;have:=qe hn;exact⟨yj.1 (wl hn),of_decide_eq_true this⟩
 have hk1:k0<24/\(QA f (k0:Nat)).u=false:=by
  unfold frE at hk0;have:=qe hk0;exact⟨yj.1 (wl hk0),of_decide_eq_true this⟩
 have hn0:n≠0:=λe=>hn1.2 (by rw[e];exact .inl rfl);have hfr:=QFs hl;have hRI:RI ⟨kind,0,0,0,0,0⟩:=by
  rcases hk12 with rfl|rfl
  ·exact .inr (by decide)
  ·exact .inl (by decide)
 have hX:=QFq hRI;have hfo:=QNT c.dg hfr;have hRE:RE ⟨true,fo,nm,(n:Nat)⟩:= .inr ⟨rfl,hfo.1,hfo.2.1,by show(1:Int)<=(n:Nat);omega,by show((n:Nat):Int)<16;omega,hs⟩;have hE:=QC2 hRE;show QCp f (Zj (Zj f (1+(n:Nat)) (Z3 ⟨kind,0,0,0,0,0⟩)) (17+(k0:Nat)) (ZR ⟨true,fo,nm,(n:Nat)⟩));have he1:∀j:Int,QA (Zj f (1+(n:Nat)) (Z3 ⟨kind,0,0,0,0,0⟩)) j=QA f j:=QRR om _;have hi1:∀j:Int,QF (Zj f (1+(n:Nat)) (Z3 ⟨kind,0,0,0,0,0⟩)) j=if j=(n:Nat)then⟨kind,0,0,0,0,0⟩else QF f j:=by
  intro j;rw[QIs om,hX.2]
 have ho1:∀k:Nat,k<24->Q5 (Zj f (1+(n:Nat)) (Z3 ⟨kind,0,0,0,0,0⟩) (17+(k:Nat)))=Q5 (f (17+(k:Nat))):=λk hk=>QEO k om;have c1:Cln (Zj f (1+(n:Nat)) (Z3 ⟨kind,0,0,0,0,0⟩)):=c.ino he1 ho1 (n:Nat) (λj hj=>by rw[hi1,if_neg hj]) (λht=>absurd ht hn1.2) (λht=>absurd ht hn1.2);have m2:Xr ([Stp.wr ⟨1+(n:Nat),Z3 ⟨kind,0,0,0,0,0⟩,2,(n:Nat),0⟩,.wr ⟨17+(k0:Nat),ZR ⟨true,fo,nm,(n:Nat)⟩,3,fo,0⟩].foldl QAg f):=by
  refine Jc m _ ⟨rfl,rfl⟩ λs hs=>?_;simp only[zj,yz,or_false]at hs;rcases hs with rfl|rfl
  ·show (2:Int)<=1+(n:Nat);omega
  ·show (2:Int)<=17+(k0:Nat);omega
 refine⟨?_,m2⟩;have hkk:∀j,Q1 f j->(QF (Zj f (1+(n:Nat)) (Z3 ⟨kind,0,0,0,0,0⟩)) j).k=(QF f j).k:=λj hj=>by rw[hi1,if_neg (λe=>hn1.2 (by rw[<-e];exact hj))]
 generalize Zj f (1+(n:Nat)) (Z3 ⟨kind,0,0,0,0,0⟩)=f1 at*
 have hin:QF f1 (n:Nat)=⟨kind,0,0,0,0,0⟩:=by rw[hi1,if_pos rfl]
 refine c1.add hk1.1 (by rw[he1];exact hk1.2) hRE rfl (by rw[QNd];exact hE.1) (by rw[QDf hk1.1,if_pos rfl];exact hE.2) (λj hj=>by rw[QDf hk1.1,if_neg hj]) (λk hk _=>QEO k om) (QNV hk1.1 _)
  (λht=>hn1.2 ((QNW he1 _).1 ht)) (by show(QF f1 (n:Nat)).k≠0;rw[hin];show kind≠0;omega) (QKE he1 hkk hfr) (by show(QF f1 fo).k=2;rw[hkk _ (QC3 hfr)];exact hf) (λk hk hu hp=>?_) (λb hb=>?_)
 ·rw [he1]at hu hp⊢;exact λe=>QC5 hno hk ⟨⟨hu,hp,c.dg k hk hu⟩,e⟩
 ·show (b:Int)∉Zt (QF f1 (n:Nat));rw[hin];simp only[Zt,zj,yz,or_false];omega
theorem QDi{o:Option Nat}{k:Int}(h:k=QLK o)(h0:¬k<0):∃j:Nat,o=some j/\k=(j:Nat):=by
 cases o with
 |none=>replace h:k= -1:=h;omega
 |some j=>exact⟨j,rfl,h⟩
theorem QHT{o:Option Nat}{k:Int}(h:k=QLK o)(h0:k<0):o=none:=by
 cases o with
 |none=>rfl
 |some j=>replace h:k=(j:Nat):=h;omega
theorem QKN:RE ZG:= .inl ⟨rfl,rfl,rfl,rfl⟩
theorem QNe(c:Cln f){t:Int}(h:¬((QF f t).k=2/\nms f t≠[])):∀k:Nat,k<24->(QA f (k:Nat)).u=true->(QA f (k:Nat)).p≠t:=by
 intro k hk hu hp;have h2:=(c.sd k hk hu).2;rw[hp]at h2;have hn:nms f t=[]:=kr λq=>h ⟨h2,q⟩;have hf:QAr f t (QA f (k:Nat)).n k:=⟨⟨hu,hp,c.dg k hk hu⟩,rfl⟩;cases hq:XI f t (QA f (k:Nat)).n with
 |none=>exact QC5 hq hk hf
 |some j=>
  have:=(QOu f t (QA f (k:Nat)).n).2 ⟨j,hq,(Jb hq).2⟩;rw[hn]at this;cases this
theorem QNf(c:Cln f)(m:Xr f)(p:List UInt8):QCp f (plF f (QFe f p)):=by
 unfold QFe QO1;by_cases h1:(ZH f p).2=0
 case neg=>rw[if_pos h1];exact ZV c m h1
 rw[if_neg (by simpa using h1)];by_cases h2:(ZH f p).1.k<0
 ·rw [if_pos h2];exact ZV c m (by decide)
 rw[if_neg h2];obtain⟨l,s,e1,e2,hs,hl,hf,hnm,hk⟩:=QFt h1;generalize (ZH f p).1=a at*
 obtain⟨fo,nm,k⟩:=a;dsimp only at*
 subst hnm;obtain⟨j,hj,rfl⟩:=QDi hk h2;obtain⟨hj24,hfj⟩:=Jb hj;by_cases h3:(QF f (QA f (j:Nat)).t).k=2/\nms f (QA f (j:Nat)).t≠[]
 ·rw [if_pos h3];exact ZV c m (by decide)
 rw[if_neg h3];have hE:=QC2 QKN;have m2:Xr ([Stp.wr ⟨17+(j:Nat),ZR ZG,3,fo,0⟩].foldl QAg f):=Jc m _ ⟨rfl,rfl⟩ λs hs=>by
  rw[xg.1 hs];show(2:Int)<=17+(j:Nat);omega
 refine⟨?_,m2⟩;show Cln (Zj f (17+(j:Nat)) (ZR ZG));exact c.del (k0:=j) hj24 hfj.1.1 (by rw[QNd];exact hE.1) (by rw[QDf hj24,if_pos rfl,hE.2];rfl) (λi hi=>by rw[QDf hj24,if_neg hi]) (λi hi _=>QEO i om) (QNV hj24 _) (QNe c h3)
theorem QNg(p:List UInt8)(h:(Xc f p).2.2=0):ZU f (Xc f p).1/\(QF f (Xc f p).1).k=1/\(Xc f p).2.1=QF f (Xc f p).1:=by
 unfold Xc at h⊢;by_cases h1:(ZA f p).2=0
 ·rw [if_neg (by simpa using h1)]at h⊢;by_cases h2:(QF f (ZA f p).1).k=1
  ·rw [if_neg (by simpa using h2)]at h⊢;exact⟨QFs (QHS h1).2,h2,rfl⟩
  ·rw [if_pos h2]at h;exact absurd h (by decide)
 ·rw [if_pos h1]at h;exact absurd h h1
theorem QRY(hx:RI x)(h1:x.k=1)(h0:0<=z)(h2:z<x.z):RI (trI x z):=by
 rcases hx with hx|hx
 ·omega
 obtain⟨k,xz,b0,b1,b2,b3⟩:=x;dsimp only at*
 unfold trI RI nd;dsimp only;right;refine⟨h1,h0,by omega,?_⟩;have e:((z+31)/32).toNat=if z<=0 then 0 else if z<=32 then 1 else if z<=64 then 2 else if z<=96 then 3 else 4:=by
  repeat' split
  all_goals omega
 rw[e];by_cases z0:z<=0
 ·rw [if_pos z0];simp;omega
 rw[if_neg z0];by_cases z1:z<=32
 ·rw [if_pos z1];simp;omega
 rw[if_neg z1];by_cases z2:z<=64
 ·rw [if_pos z2];simp;omega
 rw[if_neg z2];by_cases z3:z<=96
 ·rw [if_pos z3];simp;omega
 rw[if_neg z3];simp;omega
theorem QPb(c:Cln f)(m:Xr f)(p:List UInt8)(z:Int):QCp f (plF f (QFc f p z)):=by
 unfold QFc QOz;by_cases h1:(Xc f p).2.2=0
 case neg=>rw[if_pos h1];exact ZV c m h1
 rw[if_neg (by simpa using h1)];obtain⟨hr,hk,hx⟩:=QNg p h1;rw[hx];generalize (Xc f p).1=n at*
 by_cases h2:z<0\/(QF f n).z<z
 ·rw [if_pos h2];exact ZV c m (by decide)
 rw[if_neg h2];by_cases h3:z=(QF f n).z
 ·rw [if_pos h3];exact QIu c m
 rw[if_neg h3];have hn:=QNc (f:=f) (n:=n) om;have hn0:n≠0:=λe=>by rw[e,m.k0]at hk;omega
 have hRI:RI (trI (QF f n) z):=QRY (J1 f n) hk om om;have hX:=QFq hRI;have m2:Xr ([Stp.wr ⟨1+n,Z3 (trI (QF f n) z),2,n,0⟩].foldl QAg f):=Jc m _ ⟨rfl,rfl⟩ λs hs=>by
  rw[xg.1 hs];show(2:Int)<=1+n;omega
 refine⟨?_,m2⟩;show Cln (Zj f (1+n) (Z3 (trI (QF f n) z)));refine c.ino (q:=n) (QRR hn _) (λk hk=>QEO k om) (λj hj=>by rw[QIs hn,if_neg hj]) (λ_=>by rw[QIs hn,if_pos rfl,hX.2];rfl) (λ_ b hb1 hb2 _ hb=> .inl ?_);rw[QIs hn,if_pos rfl,hX.2]at hb;unfold trI at hb;simp only[Zt,zj,yz,or_false]at hb⊢;rcases hb with hb|hb|hb|hb<;>(split at hb<;>omega)
abbrev QTA(d:Dk):List (List UInt8):=Qg d.safe d.wait
def dk0(l:List (List UInt8)):Dk:=⟨0,l,[],[],0⟩
def QHU(n0 n1 n2 n3 n4:Nat)(b:Bool)(bad:List Int)(d:Dk):List (Nat×Ob):=[(n0,.cells 6 [.mp n3,.d (.it .i64 d.nx),.vx 32 n4 0 d.safe.length,.ts 36 (d.wait.map Q6) n1,.ts 38 d.log n2,.d (.it .i64 d.ep)]),(n1,.tail 49 true),(n2,.tail 110 true),(n3,.mp b false [.it .i64 0] (QCn bad)),(n4,.vec 37 32 (d.safe.map QJ) false)]
theorem QRZ{u n m n1 n2:Nat}(hL:L=[.mp u,.d (.it .i64 0),.vx 32 n 0 m,.ts 36 [] n1,.ts 38 [] n2,.d (.it .i64 0)])(h:m=k):Ob.cells 6 L=Ob.cells 6 [.mp u,.d (.it .i64 0),.vx 32 n 0 k,.ts 36 [] n1,.ts 38 [] n2,.d (.it .i64 0)]:=by rw[hL,h]
theorem QHV(l:List (List UInt8))(h:1<=l.length/\l.length<=65):FnH Tryz.prog 18 [.d (.fs 32 (l.map QJ))] [] 0 [] (.tup [.ptr 7 0,.d (.it .i64 0)]) (QHU 7 9 10 8 6 false [] (dk0 l)) 11:=by
 have hl:(l.map QJ).length=l.length:=ze ..;have hne:(l.map QJ).isEmpty=false:=by
  cases l with
  |nil=>simp at h
  |cons=>rfl
 refine QV i18 λT=>?_;(repeat' (conv=>whnf);first|refine cI i59 ?_|refine cI i60 ?_|with_reducible refine Spl.no hne ?_|refine QBe.vec (ai rfl ?_)|refine QBe.vec ?_|refine gOI ?_|intro x hx hu|intro h|apply sS);all_goals try omega
 conv=>whnf
 refine⟨⟨[(2,.ptr 7 0),(3,.d (.it .i64 0))],QHU 7 9 10 8 6 false [] (dk0 l)++Qv 0 [] T,11⟩,?_,rfl,rr,rr⟩;refine Wk.trans (Wk.nlMp 7 0 6 false [.it .i64 0] wu wu) ?_;refine Wk.trans (Wk.nlTs 7 3 6 36 49 wu wu) ?_;refine Wk.trans (Wk.nlTs 7 4 6 38 110 wu wu) ?_;exact Wk.en ⟨rr,ai (by (conv=>whnf);exact QRZ wu hl) rr,rfl⟩
theorem QNh(l:List (List UInt8))(h:¬(1<=l.length/\l.length<=65)):FnC Tryz.prog 18 [.d (.fs 32 (l.map QJ))] (.tup [.d (.ot (.pointer none)),.d (.it .i64 1)]):=by
 have hl:(l.map QJ).length=l.length:=ze ..;refine QK i18 ?_;(repeat' (conv=>whnf);first|refine cI i59 ?_|refine gOI ?_|intro x hx hu|intro h|apply sS);all_goals try omega
 all_goals rfl
def flE(l:List (List UInt8)):List D:=(l.map QJ).flatten
def frL(m:List (List UInt8))(i:Nat):List AV:=(flE (m.take i)).map AV.d++List.replicate ((m.length-i)*32) (AV.d (.it .u8 0))
theorem QRa{m:List (List UInt8)}{n:Nat}:(frL m i).all (AV.lt1 n)=true:=by
 unfold frL;rw[um,XX,xl,zb];intro x hx;rw[(List.mem_replicate.1 hx).2];rfl
def QTB(m:List (List UInt8))(i:Nat):S:=⟨[(0,.d (QAe m)),(4,.ptr 3 0),(6,.d (.it .i64 (i:Nat)))],[(3,.cells 6 [.ms 32 2 0 m.length m.length,.nl 36,.d (.it .i64 0),.nl 38,.nl 1,.d (.it .i64 0)]),(2,.cells (m.length*32) (frL m i)),(0,.frame 1 [])],4⟩
theorem frA_ok(m:List (List UInt8))(i:Nat):(QTB m i).ok=true:=by
 unfold QTB;simp only[S.ok,xc,xv,Ob.lt,QRa];rfl
theorem QIv{b:Bool}(h:Fd bad d N)(hm:J0 (Xa (some d))):
  FnH Tryz.prog 20 [.ptr 0 0] (JK b bad d) 5 [0] (.tup [.ptr 8 0,.d (.it .i64 0)]) ((8,.cells 1 [.ptr 0 0])::JK b bad d) 9:=by
 have hs:=QJ1 (some d) h.ok;have hmn:=QAq (some d) h.ok;rw[decide_eq_true hm]at hmn;have h0:(QDX (some d)).length≠0:=by have:=h.b.s0;exact this
 have hsl:((QDX (some d)).map QJ).length=(QDX (some d)).length:=ze ..;refine QV i20 λT=>?_;(repeat' (conv=>whnf);first|refine rFk hmn ?_|refine CallI.byRL (ArF.fr _ _ _ _ (frD wu wu) .nil) hs (λh0'=>absurd (hsl.symm.trans (congrArg List.length h0')) h0) (λoff cap hpos=>?_)|refine gOI ?_|intro x hx hu|intro h|apply sS);all_goals try omega
 exact QO
theorem QDj(d:Dk):Xa (some d)=QTA d:=by
 have hl:(QTA d).length=d.safe.length:=Yc _ _;refine vy (by rw[hl];unfold Xa;rw[ze,yy]) λi h1 h2=>?_;have e:=QIk d (i:Nat) om;rw[List.getElem_of_eq (show Xa (some d)=(List.range d.safe.length).map (λk:Nat=>rdS (some d) (k:Nat))from rfl),zy,wh,e];unfold imS;rw[uy,zo,zk h2];rfl
theorem QQH{a b:Nat}(h:b<=4):IntKind.i64.wrap ((a:Int)+(b:Int)-(a:Int))=(b:Int):=by
 rw[show(a:Int)+(b:Int)-(a:Int)=(b:Int) by omega,ju _ om]
theorem QFu{n:Nat}{a:List (List D)}(hL:L=[.ts n a q])(h:a=b):Ob.cells 1 L=Ob.cells 1 [.ts n b q]:=by rw[hL,h]
theorem QKO{b:Int}:(if b>a then b else a)=max a b:=by
 split<;>omega
theorem QIw{fr:List Int}(h:had+fr.length<=4)(z:Int):
  [AV.d (.it .i64 x.k),.d (.it .i64 z),.d (.it .i64 x.b0),.d (.it .i64 x.b1),.d (.it .i64 x.b2),.d (.it .i64 x.b3)].take (2+had)++(vI fr).flatten.map AV.d++[AV.d (.it .i64 x.k),.d (.it .i64 z),.d (.it .i64 x.b0),.d (.it .i64 x.b1),.d (.it .i64 x.b2),.d (.it .i64 x.b3)].drop (2+had+fr.length)=(ZM (Xk x z had fr)).map AV.d:=by
 have c:had=0\/had=1\/had=2\/had=3\/had=4:=by omega
 rcases c with rfl|rfl|rfl|rfl|rfl;all_goals
  rcases fr with _|⟨a,_|⟨b,_|⟨c,_|⟨d,_|⟨e,fr⟩⟩⟩⟩⟩;all_goals first|rfl|(exfalso;simp only[yo,xx]at h;omega)
variable {P:Program}
variable {ops:List Oper}
variable {K:S->Prop}
theorem QKP{ti:Nat->Option Ty}(h:QY P ti N 5 ops σ K):QY P ti N 5 ops σ K:=h
theorem QKQ{ti:Nat->Option Ty}(h:QY P ti N 7 ops σ K):QY P ti N 7 ops σ K:=h
def QTC:Tr:=(.cons 0 (.cons 1 (.cons 2 (.cons 3 (.cons 4 (.cons 5 (.cons 6 (.cons 7 (.cons 8 (.cons 9 .nil .nil) .nil) (.cons 8 (.cons 7 (.cons 9 .nil .nil) .nil) .nil)) (.cons 7 (.cons 6 (.cons 8 (.cons 9 .nil .nil) .nil) .nil) .nil)) .nil) .nil) .nil) .nil) .nil) (.cons 1 (.cons 0 (.cons 2 (.cons 3 (.cons 4 (.cons 5 (.cons 6 (.cons 7 (.cons 8 (.cons 9 .nil .nil) .nil) (.cons 8 (.cons 7 (.cons 9 .nil .nil) .nil) .nil)) (.cons 7 (.cons 6 (.cons 8 (.cons 9 .nil .nil) .nil) .nil) .nil)) .nil) .nil) .nil) .nil) (.cons 2 (.cons 0 (.cons 3 (.cons 4 (.cons 5 (.cons 6 (.cons 7 (.cons 8 (.cons 9 .nil .nil) .nil) (.cons 8 (.cons 7 (.cons 9 .nil .nil) .nil) .nil)) (.cons 7 (.cons 6 (.cons 8 (.cons 9 .nil .nil) .nil) .nil) .nil)) .nil) .nil) .nil) (.cons 3 (.cons 0 (.cons 4 (.cons 5 (.cons 6 (.cons 7 (.cons 8 (.cons 9 .nil .nil) .nil) (.cons 8 (.cons 7 (.cons 9 .nil .nil) .nil) .nil)) (.cons 7 (.cons 6 (.cons 8 (.cons 9 .nil .nil) .nil) .nil) .nil)) .nil) .nil) .nil) .nil)) .nil)) .nil))
def QTD(b:Bool)(bad:List Int)(d:Dk)(T:Nat->Nat)(n:Int)(x:Ino)(off:Int)(c:List UInt8)(had:Nat):S:=⟨[(0,.ptr 5 0),(1,.d (.it .i64 n)),(3,.d (.it .i64 off)),(4,.d (.fs 1 (QG c))),(7,.ptr 9 0),(11,.ptr 10 0),(12,.d (.it .i64 (off+(QG c).length))),(13,.d (.it .i64 (had:Nat)))],(9,.cells 6 [.d (.it .i64 x.k),.d (.it .i64 x.z),.d (.it .i64 x.b0),.d (.it .i64 x.b1),.d (.it .i64 x.b2),.d (.it .i64 x.b3)])::(10,.cells 6 [.d (.it .i64 x.k),.d (.it .i64 x.z),.d (.it .i64 x.b0),.d (.it .i64 x.b1),.d (.it .i64 x.b2),.d (.it .i64 x.b3)])::(Qx b bad d++Qv 6 [0,5] T),12⟩
def QTE(b:Bool)(bad:List Int)(d:Dk)(T:Nat->Nat)(n:Int)(x:Ino)(off:Int)(c:List UInt8)(had:Nat)(z:Int)(fr:List Int)(ok:Bool):S:=⟨[(0,.ptr 5 0),(1,.d (.it .i64 n)),(3,.d (.it .i64 off)),(4,.d (.fs 1 (QG c))),(7,.ptr 9 0),(11,.ptr 10 0),(12,.d (.it .i64 (off+(QG c).length))),(13,.d (.it .i64 (had:Nat))),(14,.d (.fs 1 (vI fr))),(15,.d (.bl ok))],(9,.cells 6 [.d (.it .i64 x.k),.d (.it .i64 x.z),.d (.it .i64 x.b0),.d (.it .i64 x.b1),.d (.it .i64 x.b2),.d (.it .i64 x.b3)])::(10,.cells 6 [.d (.it .i64 x.k),.d (.it .i64 z),.d (.it .i64 x.b0),.d (.it .i64 x.b1),.d (.it .i64 x.b2),.d (.it .i64 x.b3)])::(Qx b bad d++Qv 6 [0,5] T),12⟩
theorem QRb{fr:List Int}(hC:C=[AV.d (.it .i64 x.k),.d (.it .i64 z),.d (.it .i64 x.b0),.d (.it .i64 x.b1),.d (.it .i64 x.b2),.d (.it .i64 x.b3)])(ho:o=2+had)(hq:q=2+had+fr.length)(h:had+fr.length<=4):
  (ZM (Xk x z had fr)).map AV.d=C.take o++(vI fr).flatten.map AV.d++C.drop q:=by
 rw[hC,ho,hq,QIw h]
def ptA(b:Bool)(bad:List Int)(d:Dk)(T:Nat->Nat)(n:Int)(x y:Ino)(off:Int)(c:List UInt8)(had:Nat):Nat×Int->S|(k,p)=>⟨[(0,.ptr 5 0),(1,.d (.it .i64 n)),(3,.d (.it .i64 off)),(4,.d (.fs 1 (QG c))),(7,.ptr 9 0),(11,.ptr 10 0),(12,.d (.it .i64 (off+(QG c).length))),(13,.d (.it .i64 (had:Nat))),(16,.ptr 12 0),(17,.d (.it .i64 p))],(9,.cells 6 [.d (.it .i64 x.k),.d (.it .i64 x.z),.d (.it .i64 x.b0),.d (.it .i64 x.b1),.d (.it .i64 x.b2),.d (.it .i64 x.b3)])::(10,.cells 6 ((ZM y).map AV.d))::(12,.cells 1 [.ts 37 ((XJ (rdS (some d)) n x y had off c k).map Y6) 13])::(13,.tail 243 true)::(Qx b bad d++Qv 6 [0,5] T),14⟩
def ptB(b:Bool)(bad:List Int)(d:Dk)(T:Nat->Nat)(n:Int)(x y:Ino)(off:Int)(c:List UInt8)(had:Nat)(k:Nat)(p q:Int)(L:List Stp)(s:List UInt8):S:=⟨[(0,.ptr 5 0),(1,.d (.it .i64 n)),(3,.d (.it .i64 off)),(4,.d (.fs 1 (QG c))),(7,.ptr 9 0),(11,.ptr 10 0),(12,.d (.it .i64 (off+(QG c).length))),(13,.d (.it .i64 (had:Nat))),(16,.ptr 12 0),(17,.d (.it .i64 p)),(18,.d (.it .i64 (k:Nat))),(19,.d (.it .i64 q)),(20,.ptr 14 0)],(9,.cells 6 [.d (.it .i64 x.k),.d (.it .i64 x.z),.d (.it .i64 x.b0),.d (.it .i64 x.b1),.d (.it .i64 x.b2),.d (.it .i64 x.b3)])::(10,.cells 6 ((ZM y).map AV.d))::(12,.cells 1 [.ts 37 (L.map Y6) 13])::(13,.tail 243 true)::(14,.cells 32 ((QJ s).map AV.d))::(Qx b bad d++Qv 6 [0,5] T),15⟩
def QCV:Tr:=(.cons 0 (.cons 1 (.cons 2 (.cons 3 (.cons 4 (.cons 5 (.cons 6 (.cons 7 .nil .nil) (.cons 7 (.cons 6 .nil .nil) .nil)) (.cons 6 (.cons 5 (.cons 7 .nil .nil) .nil) .nil)) .nil) .nil) .nil) (.cons 2 (.cons 1 (.cons 3 (.cons 4 (.cons 5 (.cons 6 (.cons 7 .nil .nil) (.cons 7 (.cons 6 .nil .nil) .nil)) (.cons 6 (.cons 5 (.cons 7 .nil .nil) .nil) .nil)) .nil) .nil) .nil) .nil)) (.cons 1 (.cons 0 (.cons 2 (.cons 3 (.cons 4 (.cons 5 (.cons 6 (.cons 7 .nil .nil) (.cons 7 (.cons 6 .nil .nil) .nil)) (.cons 6 (.cons 5 (.cons 7 .nil .nil) .nil) .nil)) .nil) .nil) .nil) (.cons 2 (.cons 0 (.cons 3 (.cons 4 (.cons 5 (.cons 6 (.cons 7 .nil .nil) (.cons 7 (.cons 6 .nil .nil) .nil)) (.cons 6 (.cons 5 (.cons 7 .nil .nil) .nil) .nil)) .nil) .nil) .nil) .nil)) (.cons 2 (.cons 0 (.cons 1 (.cons 3 (.cons 4 (.cons 5 (.cons 6 (.cons 7 .nil .nil) (.cons 7 (.cons 6 .nil .nil) .nil)) (.cons 6 (.cons 5 (.cons 7 .nil .nil) .nil) .nil)) .nil) .nil) .nil) (.cons 1 (.cons 0 (.cons 3 (.cons 4 (.cons 5 (.cons 6 (.cons 7 .nil .nil) (.cons 7 (.cons 6 .nil .nil) .nil)) (.cons 6 (.cons 5 (.cons 7 .nil .nil) .nil) .nil)) .nil) .nil) .nil) .nil)) .nil)))
theorem Y8{ti:Nat->Option Ty}(h:QY P ti N 19 ops σ K):QY P ti N 19 ops σ K:=h
theorem QTF{len:Nat}(h0:0<=off)(hk:off/32<=(k:Int))(hlt:atK off len k<off+len):
  off<=atK off len k/\32*(k:Int)<=atK off len k/\atK off len k<32*(k:Int)+32/\atK off len k<atK off len (k+1)/\atK off len (k+1)<=off+len/\atK off len (k+1)<=32*(k:Int)+32/\atK off len (k+1)=min (32*(k:Int)+32) (off+len)/\QEI off len k=true:=by
 have e1:atK off len k=max off (32*(k:Int)):=by unfold atK at hlt⊢;omega
 have e2:atK off len (k+1)=min (32*(k:Int)+32) (off+len):=by unfold atK;omega
 rw[e1]at hlt⊢;rw[e2];refine⟨by omega,by omega,by omega,by omega,by omega,by omega,rfl,?_⟩;unfold QEI;exact decide_eq_true ⟨by omega,by omega,by omega⟩
theorem QRc{len:Nat}(h:¬atK off len k<off+len):∀i,k<=i->QEI off len i=false:=λi hi=>by
 unfold QEI atK at*
 exact decide_eq_false om
theorem QNi:Ju [.it .i64 y.k,.it .i64 y.z,.it .i64 y.b0,.it .i64 y.b1,.it .i64 y.b2,.it .i64 y.b3] [.it .i64 x.k,.it .i64 x.z,.it .i64 x.b0,.it .i64 x.b1,.it .i64 x.b2,.it .i64 x.b3]=decide (y=x):=by
 obtain⟨a0,a1,a2,a3,a4,a5⟩:=x;obtain⟨c0,c1,c2,c3,c4,c5⟩:=y;rw[wj,decide_eq_true_eq];simp[Ju,eqD]
theorem QPc(l:List Nat)(hl:l.length<=1000):FnC Tryz.prog 96 [.d (.fs 1 (vN l)),.d (.fs 1 (vN l))] (.d (.bl true)):=by
 have hv:=QMn l;refine QK i96 ?_;(repeat' (conv=>whnf);first|refine QC ?_|intro x hx hu|intro h|apply sS);conv=>whnf
 refine Qu QE (λk:Nat=>k<=l.length) (λk=>⟨[(0,.d (.fs 1 (vN l))),(1,.d (.fs 1 (vN l))),(5,.d (.it .i64 (k:Nat)))],[],0⟩) (λk=>l.length-k) 0 (yc _) ⟨ai rfl rr,trivial,rfl⟩ ?_;intro k hk;by_cases hkl:k<l.length
 ·obtain ⟨x,hx⟩:=Q8 hkl;unfold vN at hv⊢;(repeat' (conv=>whnf);first|refine QC ?_|intro x hx hu|intro h|apply sS);refine again (k+1) hkl (by first|omega|(dsimp only;omega)) (ai rfl (ai rfl (ai (QM om) trivial))) trivial rfl
 ·(repeat' (conv=>whnf);first|refine QC ?_|intro x hx hu|intro h|apply sS);rfl
def QNj:List Wr:=[⟨19,k1S,0,0,0⟩]
theorem QKR:QQq QNj:=by
 intro w hw;simp only[QNj,zj,yz,or_false]at hw;rcases hw with rfl;rfl
def Jt:Option Dk:=QCS YR QNj
def QFv:Option Dk:=QCS YR []
theorem kf1:J2 (dod Jt) (xI (rdS Jt) 16) (xE (rdS Jt) 24) (QEN Jt)=[(2,2)]:=by decide+kernel
theorem kf2:nmR (Q2 (kdI (xI (rdS Jt) 16)) (xE (rdS Jt) 24)) 16=[0]:=by decide+kernel
theorem kf3:J2 (dod QFv) (xI (rdS QFv) 16) (xE (rdS QFv) 24) (QEN QFv)=[]:=by decide+kernel
theorem QPd{f:Nat}{a:AV}{sz:Nat}{r:AV}(h:FnC Tryz.prog f [a,.d (.fs sz [])] r):FnC Tryz.prog f [a,.d (.fs 0 [])] r:=by
 refine⟨h.isP,λg w vs h1 hG h2 h3=>h.run g w vs h1 hG h2 λj hj=>?_⟩
 match j,hj with
 |0,_=>exact h3 0 (by simp)
 |1,_=>
  have:=h3 1 (by simp);generalize vs.getD 1 undef=v at this;cases this with|d _ _ h=>?_
  cases h with
  |fs0=>exact .d _ _ (.fs0 _ _ _)
  |fs _ _ _ _ _ _ _ hl=>
   subst hl;exact .d _ _ (.fs0 _ _ _)
theorem QIx:FnC Tryz.prog 43 [] (.d (.bl true)):=by
 have ke:=QMb;have kd:FnC Tryz.prog 94 [.d (QAe YR),.d (.fs 36 (QNj.map Q6))] (.d (QQ Jt)):=QJn YR QGn QNj QKR (by decide) (by decide);have ke2:FnC Tryz.prog 94 [.d (QAe YR),.d (.fs 0 [])] (.d (QQ QFv)):=QPd (QJn YR QGn [] (λw hw=>by cases hw) (by decide) (by decide));have hD:Zs Jt:=QMY QGn QKR (by decide);have hE:Zs QFv:=QMY QGn (λw hw=>by cases hw) (by decide);have k1:=QNP Jt hD;have k2:=QBN Jt hD;have k3:=QBN QFv hE;have k4:=QEG Jt hD;have ki:=QPc [0] (by decide);have k1:FnC Tryz.prog 95 [.d (QQ Jt)] (.d (.fs 2 ((J2 (dod Jt) (xI (rdS Jt) 16) (xE (rdS Jt) 24) (QEN Jt)).map QIf))):=k1;rw[kf1]at k1 k2;rw[kf3]at k3;rw[kf2]at k4;have k2:FnC Tryz.prog 44 [.d (QQ Jt)] (.d (.bl false)):=k2;have k3:FnC Tryz.prog 44 [.d (QQ QFv)] (.d (.bl true)):=k3;generalize Jt=D0 at*
 generalize QFv=D1 at*
 refine QK i43 ?_;(repeat' (conv=>whnf);first|refine cEk ke ?_|refine cEk kd ?_|refine cEk k1 ?_|refine cEk k2 ?_|refine cEk k3 ?_|refine cEk ke2 ?_|refine cEk k4 ?_|refine cEk ki ?_|refine QC ?_|intro x hx hu|intro h|apply sS);rfl
end Go.Proofs.YtikgcbioagmkkaaGreatDoor
