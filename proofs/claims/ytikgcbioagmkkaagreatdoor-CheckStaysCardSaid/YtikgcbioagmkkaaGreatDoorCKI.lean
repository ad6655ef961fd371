/- Contracts of the functions that the law reaches, and the law. Conditions: none. -/
import Derived.Test.YtikgcbioagmkkaaGreatDoorCKH
import Derived.Test.YtikgcbioagmkkaaGreatDoorCKE
import Derived.Test.YtikgcbioagmkkaaGreatDoorCKK
import Derived.Test.YtikgcbioagmkkaaGreatDoorCKD
import Derived.Test.YtikgcbioagmkkaaGreatDoorCKF
set_option maxRecDepth 100000
set_option linter.all false
set_option maxHeartbeats 16000000
namespace Go.Proofs.YtikgcbioagmkkaaGreatDoor
open Go.Sy
structure Act where
 k:Int
 p:List UInt8
 q:List UInt8
 n:Int
 b:List UInt8
 bad:List Int
def QB5(a:Act):List D:=[.it .i64 a.k,.st a.p,.st a.q,.it .i64 a.n,.fs 1 (QG a.b),.fs 1 (vI a.bad)]
structure QNF(a:Act):Prop where
 p:a.p.length<=100
 q:a.q.length<=100
 b:a.b.length<=300
 bad:a.bad.length<=30
def QEL(f:Int->List UInt8)(a:Act):Pln:=
 if a.k=0 then mkP f a.p 1 else if a.k=1 then mkP f a.p 2 else if a.k=2 then QG4 f a.p a.n a.b else if a.k=3 then QLL f a.p a.b else
 if a.k=4 then QFc f a.p a.n else if a.k=5 then QFd f a.p a.q else if a.k=6 then QFe f a.p else(0,[])
variable {b:Bool}
variable {bad:List Int}
variable {d:Dk}
variable {N i:Nat}
theorem QLb(h:Fd bad d N)(p:List UInt8)(hp:p.length<=100000):
  FnH Tryz.prog 47 [.ptr 5 0,.d (.st p)] (Qx b bad d) 6 [0,5] (.d (.it .i64 (runP bad d (mkP (rdS (some d)) p 1)).2)) (Qx b bad (runP bad d (mkP (rdS (some d)) p 1)).1) 6:=by
 have h1:=QJ3 (b:=b) h p hp 1;generalize runP bad d (mkP (rdS (some d)) p 1)=R at*
 refine QV i47 λT=>?_;(repeat' (conv=>whnf);first|refine CallI.h h1 [0,1,2,3,4,5] ?_|refine gOI ?_|intro x hx hu|intro h|apply sS);exact QO
theorem QNG(h:Fd bad d N)(p:List UInt8)(hp:p.length<=100000):
  FnH Tryz.prog 89 [.ptr 5 0,.d (.st p)] (Qx b bad d) 6 [0,5] (.d (.it .i64 (runP bad d (mkP (rdS (some d)) p 2)).2)) (Qx b bad (runP bad d (mkP (rdS (some d)) p 2)).1) 6:=by
 have h1:=QJ3 (b:=b) h p hp 2;generalize runP bad d (mkP (rdS (some d)) p 2)=R at*
 refine QV i89 λT=>?_;(repeat' (conv=>whnf);first|refine CallI.h h1 [0,1,2,3,4,5] ?_|refine gOI ?_|intro x hx hu|intro h|apply sS);exact QO
theorem QPC(h:Fd bad d N)(a:Act)(ha:QNF a)(h7:a.k≠7):
  FnH Tryz.prog 40 [.ptr 5 0,.dg 6 (QB5 a)] (Qx b bad d) 6 [0,5] (.d (.it .i64 (runP bad d (QEL (rdS (some d)) a)).2)) (Qx b bad (runP bad d (QEL (rdS (some d)) a)).1) 6:=by
 have hap:=ha.p;have haq:=ha.q;have hab:=ha.b;unfold QEL;obtain⟨k,p,q,n,bb,ba⟩:=a;dsimp only at*
 have g0:=QLb (b:=b) h p om;have g1:=QNG (b:=b) h p om;have g2:=QM9 (b:=b) h p om n bb om;have g3:=QLY (b:=b) h p om bb om;have g4:=QM1 (b:=b) h p om n;have g5:=QLa (b:=b) h p q om om;have g6:=QLT (b:=b) h p om;show FnH _ _ [.ptr 5 0,.dg 6 [.it .i64 k,.st p,.st q,.it .i64 n,.fs 1 (QG bb),.fs 1 (vI ba)]] _ _ _ _ _ _;by_cases c0:k=0
 ·subst c0;rw[if_pos rfl];generalize runP bad d (mkP (rdS (some d)) p 1)=R at*
  refine QV i40 λT=>?_;(repeat' (conv=>whnf);first|refine CallI.h g0 [0,1,2,3,4,5] ?_|refine gOI ?_|intro x hx hu|intro h|apply sS);exact QO
 ·rw [if_neg c0];by_cases c1:k=1
  ·subst c1;rw[if_pos rfl];generalize runP bad d (mkP (rdS (some d)) p 2)=R at*
   refine QV i40 λT=>?_;(repeat' (conv=>whnf);first|refine CallI.h g1 [0,1,2,3,4,5] ?_|refine gOI ?_|intro x hx hu|intro h|apply sS);exact QO
  ·rw [if_neg c1];by_cases c2:k=2
   ·subst c2;rw[if_pos rfl];generalize runP bad d (QG4 (rdS (some d)) p n bb)=R at*
    refine QV i40 λT=>?_;(repeat' (conv=>whnf);first|refine CallI.h g2 [0,1,2,3,4,5] ?_|refine gOI ?_|intro x hx hu|intro h|apply sS);exact QO
   ·rw [if_neg c2];by_cases c3:k=3
    ·subst c3;rw[if_pos rfl];generalize runP bad d (QLL (rdS (some d)) p bb)=R at*
     refine QV i40 λT=>?_;(repeat' (conv=>whnf);first|refine CallI.h g3 [0,1,2,3,4,5] ?_|refine gOI ?_|intro x hx hu|intro h|apply sS);exact QO
    ·rw [if_neg c3];by_cases c4:k=4
     ·subst c4;rw[if_pos rfl];generalize runP bad d (QFc (rdS (some d)) p n)=R at*
      refine QV i40 λT=>?_;(repeat' (conv=>whnf);first|refine CallI.h g4 [0,1,2,3,4,5] ?_|refine gOI ?_|intro x hx hu|intro h|apply sS);exact QO
     ·rw [if_neg c4];by_cases c5:k=5
      ·subst c5;rw[if_pos rfl];generalize runP bad d (QFd (rdS (some d)) p q)=R at*
       refine QV i40 λT=>?_;(repeat' (conv=>whnf);first|refine CallI.h g5 [0,1,2,3,4,5] ?_|refine gOI ?_|intro x hx hu|intro h|apply sS);exact QO
      ·rw [if_neg c5];by_cases c6:k=6
       ·subst c6;rw[if_pos rfl];generalize runP bad d (QFe (rdS (some d)) p)=R at*
        refine QV i40 λT=>?_;(repeat' (conv=>whnf);first|refine CallI.h g6 [0,1,2,3,4,5] ?_|refine gOI ?_|intro x hx hu|intro h|apply sS);exact QO
       ·rw [if_neg c6,Jq];refine QV i40 λT=>?_;(repeat' (conv=>whnf);first|refine gOI ?_|intro x hx hu|intro h|apply sS);exact QO
def QCo(x:Pln):Prop:=(∀s∈x.2,QFf s)/\x.2.length<=5
theorem QAf(e:Int):QCo (e,[]):=⟨λs hs=>(by cases hs),yc _⟩
theorem QRJ{e:Int}{s:Stp}(h:QFf s):QCo (e,[s]):=⟨λx hx=>(by rw[xg.1 hx];exact h),(by show 1<=5;omega)⟩
theorem QRK(f:Int->List UInt8)(p:List UInt8)(kind:Int):QCo (mkP f p kind):=by
 unfold mkP mkQ;split
 ·exact QAf _
 ·split
  ·exact QAf _
  ·split
   ·rename_i n k h1 h2;have hn:=QMz h1;have hk:=QFj h2;refine⟨λs hs=>?_,by show 2<=5;omega⟩;simp only[zj,yz,or_false]at hs;rcases hs with rfl|rfl
    ·exact QHD (n:Nat) om _ _ _
    ·exact QBK (k:Nat) om _ _
   ·exact QAf _
theorem QPD(f:Int->List UInt8)(n:Int)(hn:0<=n/\n<16)(x:Ino)(hx:RI x)(off:Int)(c:List UInt8):QCo (QEJ f n x off c):=by
 unfold QEJ;split
 ·exact QAf _
 ·split
  ·exact QAf _
  ·split
   ·exact QAf _
   ·have hfr:∀j∈frB f (nd (max x.z (off+c.length))-nd x.z),1<=j/\j<=24:=λj hj=>QBO hj;generalize frB f (nd (max x.z (off+c.length))-nd x.z)=fr at*
    have hyb:=λi=>QKJ hx hfr (max x.z (off+c.length)) (had:=nd x.z) i;generalize Xk x (max x.z (off+c.length)) (nd x.z) fr=y at*
    have h1:=QKK (f:=f) (n:=n) (x:=x) (y:=y) (had:=nd x.z) (off:=off) (b:=c) (k:=4) hyb;have h2:= @QDh f n x y (nd x.z) off c 4;refine⟨λs hs=>?_,?_⟩
    ·rcases yi.1 hs with hs|hs
     ·exact h1 s hs
     ·split at hs
      ·cases hs
      ·rw [xg.1 hs];exact QHD n hn _ _ _
    ·show ((_:List Stp)++(_:List Stp)).length<=5;rw[zu];split
     ·simp only[xx];omega
     ·simp only[xm];omega
theorem QJ7(f:Int->List UInt8)(p:List UInt8)(off:Int)(c:List UInt8):QCo (QG4 f p off c):=by
 unfold QG4 QIh;split
 ·exact QAf _
 ·exact QPD f _ (QDb f p) _ (QCy f p) _ _
theorem QPE(f:Int->List UInt8)(p:List UInt8)(c:List UInt8):QCo (QLL f p c):=QJ7 f p _ c
theorem QPF(f:Int->List UInt8)(p:List UInt8)(tz:Int):QCo (QFc f p tz):=by
 unfold QFc QOz;split
 ·exact QAf _
 ·split
  ·exact QAf _
  ·split
   ·exact QAf _
   ·exact QRJ (QHD _ (QDb f p) _ _ _)
theorem QPG(f:Int->List UInt8)(p:List UInt8):QCo (QFe f p):=by
 have hk:=QEl (f:=f) (p:=p);unfold QFe QO1;split
 ·exact QAf _
 ·split
  ·exact QAf _
  ·split
   ·exact QAf _
   ·exact QRJ (QBK _ om _ _)
theorem QPH(f:Int->List UInt8)(a b:Plc)(x:Ent)(ha:0<=a.k/\a.k<24)(hb:b.k<24):QCo (QIi f a b x):=by
 unfold QIi;split
 ·exact QRJ (QBK _ ha _ _)
 ·split
  ·exact QAf _
  ·rename_i k hk;have h:0<=((k:Nat):Int)/\((k:Nat):Int)<24:=by
    split at hk
    ·have:=QFj hk;omega
    ·have:=za hk;omega
   refine⟨λs hs=>?_,by show 3<=5;omega⟩;simp only[zj,yz,or_false]at hs;rcases hs with rfl|rfl|rfl
   ·exact QBK _ h _ _
   ·trivial
   ·exact QBK _ ha _ _
theorem QPI(f:Int->List UInt8)(p q:List UInt8):QCo (QFd f p q):=by
 have ka:=QEl (f:=f) (p:=p);have kb:=QEl (f:=f) (p:=q);unfold QFd QO0;repeat' split
 all_goals first|exact QAf _|exact QPH f _ _ _ om om
theorem QJ8(f:Int->List UInt8)(a:Act):QCo (QEL f a):=by
 unfold QEL;repeat' split
 all_goals first|exact QRK .. |exact QJ7 .. |exact QPE .. |exact QPF .. |exact QPI .. |exact QPG .. |exact QAf _
theorem Fd.runP(h:Fd bad d N){x:Pln}(hx:QCo x)(hM:N+5<=90000):Fd bad (Go.Proofs.YtikgcbioagmkkaaGreatDoor.runP bad d x).1 (N+5):=by
 unfold Go.Proofs.YtikgcbioagmkkaaGreatDoor.runP;split
 ·exact h.mono om hM
 ·exact (Fd.run x.2 h (by have:=hx.2;omega) hx.1).mono (by have:=hx.2;omega) hM
theorem Fd.dk0{l:List (List UInt8)}(hl:QDN l)(hn:l.length=65):Fd [] (Go.Proofs.YtikgcbioagmkkaaGreatDoor.dk0 l) 0:=
 ⟨hl,λw hw=>(by cases hw),λw hw=>(by cases hw),⟨⟨Int.le_refl _,Int.le_refl _⟩,zr _,zr _,(by show l.length<=65;omega),(by show l.length≠0;omega)⟩,hn,yc _,⟨(by show-((0:Nat):Int)<=0;omega),(by show(0:Int)<=((0:Nat):Int);omega)⟩,⟨[],rfl,λe he=>(by cases he)⟩,by decide⟩
def kA:List UInt8:=[47,97]
def kX:List UInt8:=[120,121]
def k0:Dk:=dk0 YR
def k1:Dk:=(runP [] k0 (mkP (rdS (some k0)) kA 1)).1
def k2:Dk:=(runP [] k1 (QG4 (rdS (some k1)) kA 0 kX)).1
def doR(bad:List Int)(d:Dk)(a:Act):Dk×Int:=
 if a.k=8 then synP bad d a.p 1 [1,2]else if a.k=9 then synP bad d a.p 1 [1]else if a.k=10 then synP bad d a.p 2 [3,2]else if a.k=11 then barP bad d else runP bad d (QEL (rdS (some d)) a)
theorem Fd.doR(h:Fd bad d N)(a:Act)(hM:N+5<=90000):Fd bad (Go.Proofs.YtikgcbioagmkkaaGreatDoor.doR bad d a).1 (N+5):=by
 unfold Go.Proofs.YtikgcbioagmkkaaGreatDoor.doR;repeat' split
 ·exact (h.synP _ _ _ (by simp) om).mono om hM
 ·exact (h.synP _ _ _ (by simp) om).mono om hM
 ·exact (h.synP _ _ _ (by simp) om).mono om hM
 ·exact (h.barP om).mono om hM
 ·exact h.runP (QJ8 ..) hM
theorem QPJ(h:Fd bad d N)(a:Act)(ha:QNF a)(h7:a.k≠7):
  FnH Tryz.prog 10 [.ptr 5 0,.dg 6 (QB5 a)] (Qx b bad d) 6 [0,5] (.d (.it .i64 (doR bad d a).2)) (Qx b bad (doR bad d a).1) 6:=by
 have hap:=ha.p;have h8:=QNC (b:=b) h a.p om;have h9:=QND (b:=b) h a.p om;have h10:=QPB (b:=b) h a.p om;have h11:=QPA (b:=b) h;have hD:=QPC (b:=b) h a ha h7;unfold doR;generalize runP bad d (QEL (rdS (some d)) a)=R at*
 generalize synP bad d a.p 1 [1,2]=R8 at*
 generalize synP bad d a.p 1 [1]=R9 at*
 generalize synP bad d a.p 2 [3,2]=R10 at*
 generalize barP bad d=R11 at*
 obtain⟨k,p,q,n,bb,ba⟩:=a;dsimp only at*
 replace hD:FnH Tryz.prog 40 [.ptr 5 0,.dg 6 [.it .i64 k,.st p,.st q,.it .i64 n,.fs 1 (QG bb),.fs 1 (vI ba)]] (Qx b bad d) 6 [0,5] (.d (.it .i64 R.2)) (Qx b bad R.1) 6:=hD;show FnH _ _ [.ptr 5 0,.dg 6 [.it .i64 k,.st p,.st q,.it .i64 n,.fs 1 (QG bb),.fs 1 (vI ba)]] _ _ _ _ _ _;by_cases c8:k=8
 ·subst c8;rw[if_pos rfl];refine QV i10 λT=>?_;(repeat' (conv=>whnf);first|refine CallI.h h8 [0,1,2,3,4,5] ?_|refine gOI ?_|intro x hx hu|intro h|apply sS);exact QO
 rw[if_neg c8];by_cases c9:k=9
 ·subst c9;rw[if_pos rfl];refine QV i10 λT=>?_;(repeat' (conv=>whnf);first|refine CallI.h h9 [0,1,2,3,4,5] ?_|refine gOI ?_|intro x hx hu|intro h|apply sS);exact QO
 rw[if_neg c9];by_cases c10:k=10
 ·subst c10;rw[if_pos rfl];refine QV i10 λT=>?_;(repeat' (conv=>whnf);first|refine CallI.h h10 [0,1,2,3,4,5] ?_|refine gOI ?_|intro x hx hu|intro h|apply sS);exact QO
 rw[if_neg c10];by_cases c11:k=11
 ·subst c11;rw[if_pos rfl];refine QV i10 λT=>?_;(repeat' (conv=>whnf);first|refine CallI.h h11 [0,1,2,3,4,5] ?_|refine gOI ?_|intro x hx hu|intro h|apply sS);exact QO
 rw[if_neg c11];refine QV i10 λT=>?_;(repeat' (conv=>whnf);first|refine CallI.h hD [0,1,2,3,4,5] ?_|refine gOI ?_|intro x hx hu|intro h|apply sS);all_goals try omega
 exact QO
theorem QFl(bad:List Int)(d:Dk)(p:List UInt8)(kind:Int)(ks:List Int)(n:Int)(h0:0<=n):rdS (some (synP bad d p kind ks).1) n=rdS (some d) n:=by
 unfold synP;split
 ·rfl
 ·split
  ·rfl
  ·exact QRA _ d n h0
variable {x:Ino}
theorem QSz(hk:x.k=1)(h0:0<=x.z)(h1:x.z<=128)(hB:∀i:Nat,i<nd x.z->1<=ZP x i/\ZP x i<=24)(hZ:∀i:Nat,nd x.z<=i->i<4->ZP x i=0)(hD:∀i j:Nat,i<j->j<nd x.z->ZP x i≠ZP x j):RI x:=by
 right;have e:nd x.z=((x.z+31)/32).toNat:=rfl;generalize nd x.z=q at*
 refine⟨hk,h0,h1,λh=>hB 0 (by omega),λh=>hZ 0 (by omega) (by omega),λh=>?_,λh=>hZ 1 (by omega) (by omega),λh=>?_,λh=>hZ 2 (by omega) (by omega),λh=>?_,λh=>hZ 3 (by omega) (by omega)⟩
 ·have a:=hB 1 (by omega);exact⟨a.1,a.2,(hD 0 1 (by omega) (by omega)).symm⟩
 ·have a:=hB 2 (by omega);exact⟨a.1,a.2,(hD 0 2 (by omega) (by omega)).symm,(hD 1 2 (by omega) (by omega)).symm⟩
 ·have a:=hB 3 (by omega);exact⟨a.1,a.2,(hD 0 3 (by omega) (by omega)).symm,(hD 1 3 (by omega) (by omega)).symm,(hD 2 3 (by omega) (by omega)).symm⟩
theorem QS0(h:RI x)(hk:x.k=1)(i:Nat)(hi:i<nd x.z):1<=ZP x i/\ZP x i<=24:=by
 rcases h with h|h
 ·omega
 have e:nd x.z=((x.z+31)/32).toNat:=rfl
 match i,hi with
 |0,hi=>show 1<=x.b0/\x.b0<=24;omega
 |1,hi=>show 1<=x.b1/\x.b1<=24;omega
 |2,hi=>show 1<=x.b2/\x.b2<=24;omega
 |3,hi=>show 1<=x.b3/\x.b3<=24;omega
 |i+4,hi=>omega
theorem QUh(h:RI x)(hk:x.k=1)(i:Nat)(hi:nd x.z<=i)(h4:i<4):ZP x i=0:=by
 rcases h with h|h
 ·omega
 have e:nd x.z=((x.z+31)/32).toNat:=rfl
 match i,hi,h4 with
 |0,hi,_=>show x.b0=0;omega
 |1,hi,_=>show x.b1=0;omega
 |2,hi,_=>show x.b2=0;omega
 |3,hi,_=>show x.b3=0;omega
theorem QUi(h:RI x)(hk:x.k=1)(i j:Nat)(hi:i<j)(hj:j<nd x.z):ZP x i≠ZP x j:=by
 have hz:=QHC h;rcases h with h|h
 ·omega
 have e:nd x.z=((x.z+31)/32).toNat:=rfl;rcases(by omega:(i=0/\j=1)\/(i=0/\j=2)\/(i=0/\j=3)\/(i=1/\j=2)\/(i=1/\j=3)\/(i=2/\j=3))with⟨rfl,rfl⟩|⟨rfl,rfl⟩|⟨rfl,rfl⟩|⟨rfl,rfl⟩|⟨rfl,rfl⟩|⟨rfl,rfl⟩
 ·show x.b0≠x.b1;omega
 ·show x.b0≠x.b2;omega
 ·show x.b0≠x.b3;omega
 ·show x.b1≠x.b2;omega
 ·show x.b1≠x.b3;omega
 ·show x.b2≠x.b3;omega
theorem QFm(x:Ino)(i:Nat)(h4:i<4):ZP x i∈Zt x:=by
 match i,h4 with
 |0,_=>exact zm
 |1,_=>exact zi _ zm
 |2,_=>exact zi _ (zi _ zm)
 |3,_=>exact zi _ (zi _ (zi _ zm))
theorem QPK{b:Int}(h:b∈Zt x):∃i:Nat,i<4/\b=ZP x i:=by
 simp only[Zt,zj,yz,or_false]at h;rcases h with h|h|h|h
 ·exact ⟨0,by omega,h⟩
 ·exact ⟨1,by omega,h⟩
 ·exact ⟨2,by omega,h⟩
 ·exact ⟨3,by omega,h⟩
variable {z:Int}
section
variable {f:Int->List UInt8}
theorem QNH{b:Int}(h:b∈frA f):QBH f b=false:=by
 unfold frA at h;obtain⟨i,hi,rfl⟩:=ye.1 h;have:=(xj.1 hi).2;simpa using this
theorem QRL:(frA f).Pairwise (· < ·):=by
 unfold frA;refine List.Pairwise.map _ (λa b h=>?_) (qg _ jy);show((a+1:Nat):Int)<((b+1:Nat):Int);omega
theorem QNI{b:Int}(hi:i<16)(ht:Q1 f (i:Nat))(hb:b∈Zt (QF f (i:Nat))):QBH f b=true:=by
 unfold QBH;exact vz.2 ⟨i,yj.2 hi,by rw[decide_eq_true ht,decide_eq_true hb];rfl⟩
theorem QS1(h:z<=128):nd z<=4:=by unfold nd;omega
theorem QPL{y:Int}(h:y<=z):nd y<=nd z:=by unfold nd;omega
theorem QFn{had:Nat}{fr:List Int}(h4:i<4):ZP (Xk x z had fr) i=QDV x had fr i:=by
 match i,h4 with
 |0,_=>rfl
 |1,_=>rfl
 |2,_=>rfl
 |3,_=>rfl
theorem QPM{n:Nat}(hn:n<16)(ht:Q1 f (n:Nat))(hk:(QF f (n:Nat)).k=1)(hz:(QF f (n:Nat)).z<=z)(h1:z<=128)(hl:(frB f (nd z-nd (QF f (n:Nat)).z)).length=nd z-nd (QF f (n:Nat)).z):
  RI (Xk (QF f (n:Nat)) z (nd (QF f (n:Nat)).z) (frB f (nd z-nd (QF f (n:Nat)).z)))/\∀b∈Zt (Xk (QF f (n:Nat)) z (nd (QF f (n:Nat)).z) (frB f (nd z-nd (QF f (n:Nat)).z))),b∈Zt (QF f (n:Nat))\/QBH f b=false:=by
 have hR:=J1 f (n:Nat);have hx0:=QHC hR;have hus:∀b∈Zt (QF f (n:Nat)),QBH f b=true:=λb hb=>QNI hn ht hb;generalize QF f (n:Nat)=x at*
 have hfr:∀b∈frB f (nd z-nd x.z),1<=b/\b<=24/\QBH f b=false:=λb hb=>⟨(QBO hb).1,(QBO hb).2,QNH (xd hb)⟩;have hpw:(frB f (nd z-nd x.z)).Pairwise (· < ·):=List.Pairwise.sublist (List.take_sublist _ _) QRL;generalize frB f (nd z-nd x.z)=fr at*
 have hnd:=QPL hz;have hn4:=QS1 h1;have hold:∀i:Nat,i<nd x.z->ZP (Xk x z (nd x.z) fr) i=ZP x i:=by
  intro i hi;rw[QFn (i:=i) (by omega)];unfold QDV;rw[if_neg (by omega)]
 have hnew:∀i:Nat,(h:nd x.z<=i)->(hi:i<nd z)->ZP (Xk x z (nd x.z) fr) i=fr[i-nd x.z]'(by omega):=by
  intro i h hi;rw[QFn (i:=i) (by omega)];unfold QDV;rw[if_pos h,zo,zk (by omega)];rfl
 have hrest:∀i:Nat,nd z<=i->i<4->ZP (Xk x z (nd x.z) fr) i=ZP x i:=by
  intro i h h4;rw[QFn (i:=i) h4];unfold QDV;rw[if_pos (by omega),zo,vg (by omega)];rfl
 have hmem:∀(i:Nat) (hi:i<fr.length),1<=fr[i]/\fr[i]<=24/\QBH f fr[i]=false:=λi hi=>hfr _ (zt hi);constructor
 ·refine QSz (x:=Xk x z (nd x.z) fr) hk (by show(0:Int)<=z;omega) h1 (λi hi=>?_) (λi hi h4=>?_) (λi j hij hj=>?_)
  ·replace hi:i<nd z:=hi;by_cases h:i<nd x.z
   ·rw [hold i h];exact QS0 hR hk i h
   ·rw [hnew i (by omega) hi];have:=hmem (i-nd x.z) (by omega);exact⟨this.1,this.2.1⟩
  ·rw [hrest i hi h4];exact QUh hR hk i (y9 hnd hi) h4
  ·replace hj:j<nd z:=hj;by_cases h:j<nd x.z
   ·rw [hold i (by omega),hold j h];exact QUi hR hk i j hij h
   ·rw [hnew j (by omega) hj];have hjm:=hmem (j-nd x.z) (by omega);by_cases h':i<nd x.z
    ·rw [hold i h'];intro e;have:=hus _ (QFm x i (by omega));rw[e,hjm.2.2]at this;cases this
    ·rw [hnew i (by omega) (by omega)];have:=u0.1 hpw (i-nd x.z) (j-nd x.z) (by omega) (by omega) (by omega);omega
 ·intro b hb;obtain⟨i,hi,rfl⟩:=QPK hb;by_cases h:i<nd x.z
  ·rw [hold i h];exact .inl (QFm x i hi)
  ·by_cases h':i<nd z
   ·rw [hnew i (by omega) h'];exact .inr (hmem (i-nd x.z) (by omega)).2.2
   ·rw [hrest i (by omega) hi];exact .inl (QFm x i hi)
theorem QHH:∀(l:List Stp) (g:Int->List UInt8),(∀s∈l,∃w,s= .wr w/\41<=w.a)->(∀j,QA (l.foldl QAg g) j=QA g j)/\(∀j,QF (l.foldl QAg g) j=QF g j)/\∀k:Nat,k<24->Q5 (l.foldl QAg g (17+(k:Nat)))=Q5 (g (17+(k:Nat)))
 |[],g,_=>⟨λ_=>rfl,λ_=>rfl,λ_ _=>rfl⟩
 |s::l,g,h=>by
  obtain⟨w,rfl,hw⟩:=h s zm;obtain⟨h1,h2,h3⟩:=QHH l (Zj g w.a w.s) λs hs=>h s (zi _ hs);refine⟨λj=>?_,λj=>?_,λk hk=>?_⟩
  ·show QA (l.foldl QAg (Zj g w.a w.s)) j=_;rw[h1,QUj hw]
  ·show QF (l.foldl QAg (Zj g w.a w.s)) j=_;rw[h2,QUk hw]
  ·show Q5 (l.foldl QAg (Zj g w.a w.s) (17+(k:Nat)))=_;rw[h3 k hk,QEO k (by omega)]
theorem QNJ(c:Cln f)(m:Xr f){n:Int}(hr:ZU f n)(hk:(QF f n).k=1)(off:Int)(b:List UInt8):QCp f (plF f (QEJ f n (QF f n) off b)):=by
 unfold QEJ;have hn:=QNc (f:=f) (n:=n) (by omega);have hn0:n≠0:=λe=>by rw[e,m.k0]at hk;omega
 by_cases h1:off<0\/(QF f n).z<off
 ·rw [if_pos h1];exact ZV c m (by decide)
 rw[if_neg h1];by_cases h2:128-off<(b.length:Int)
 ·rw [if_pos h2];exact ZV c m (by decide)
 rw[if_neg h2];have hzz:(QF f n).z<=max (QF f n).z (off+b.length)/\max (QF f n).z (off+b.length)<=128/\off+b.length<=max (QF f n).z (off+b.length):=by
  have:=QHC (J1 f n);omega
 generalize max (QF f n).z (off+b.length)=z at*
 by_cases h3:(frB f (nd z-nd (QF f n).z)).length≠nd z-nd (QF f n).z
 ·rw [if_pos h3];exact ZV c m (by decide)
 rw[if_neg h3];have hl:=kr h3;obtain⟨q,rfl⟩:∃q:Nat,n=(q:Nat):=⟨n.toNat,by omega⟩;obtain⟨hRI,hbl⟩:=QPM (n:=q) (by omega) (QC3 hr) hk hzz.1 hzz.2.1 hl;have hyz:(Xk (QF f (q:Nat)) z (nd (QF f (q:Nat)).z) (frB f (nd z-nd (QF f (q:Nat)).z))).z=z:=rfl;have hyk:(Xk (QF f (q:Nat)) z (nd (QF f (q:Nat)).z) (frB f (nd z-nd (QF f (q:Nat)).z))).k=1:=hk;generalize Xk (QF f (q:Nat)) z (nd (QF f (q:Nat)).z) (frB f (nd z-nd (QF f (q:Nat)).z))=y at*
 have hdat:∀s∈XJ f (q:Nat) (QF f (q:Nat)) y (nd (QF f (q:Nat)).z) off b 4,∃w,s= .wr w/\41<=w.a:=by
  intro s hs;unfold XJ at hs;obtain⟨i,hi,rfl⟩:=ye.1 hs;obtain⟨hi1,hi2⟩:=xj.1 hi;have hi4:=yj.1 hi1;unfold QEI at hi2;have hi2:=of_decide_eq_true hi2;have:=QS0 hRI hyk i (by rw[hyz];unfold nd;omega);exact⟨_,rfl,by show(41:Int)<=40+ZP y i;omega⟩
 generalize XJ f (q:Nat) (QF f (q:Nat)) y (nd (QF f (q:Nat)).z) off b 4=L at*
 obtain⟨d1,d2,d3⟩:=QHH L f hdat
 have hhi:∀s∈L,Hi2 s:=λs hs=>by
  obtain⟨w,rfl,hw⟩:=hdat s hs;show 2<=w.a;omega
 have hX:=QFq hRI;by_cases hy:y=QF f (q:Nat)
 ·rw [if_pos hy,xh];exact⟨c.same d1 d3 d2,Jc m L ⟨rfl,rfl⟩ hhi⟩
 rw[if_neg hy];refine⟨?_,Jc m _ ⟨rfl,rfl⟩ λs hs=>?_⟩
 ·show Cln ((L++[Stp.wr ⟨1+(q:Nat),Z3 y,2,(q:Nat),0⟩]).foldl QAg f);rw[vr];show Cln (Zj (L.foldl QAg f) (1+(q:Nat)) (Z3 y));refine c.ino (q:=(q:Nat)) (λj=>by rw[QRR hn,d1]) (λk hk=>by rw[QEO k (by omega),d3 k hk]) (λj hj=>by rw[QIs hn,if_neg hj,d2]) (λ_=>by rw[QIs hn,if_pos rfl,hX.2,hyk,hk]) (λ_ b hb1 hb2 _ hb=>?_);rw[QIs hn,if_pos rfl,hX.2]at hb;rcases hbl _ hb with h|h
  ·exact .inl h
  ·exact .inr λi hi o=>by rw[QNI hi o.2.2 o.2.1]at h;cases h
 ·rcases yi.1 hs with hs|hs
  ·exact hhi s hs
  ·rw [xg.1 hs];show(2:Int)<=1+(q:Nat);omega
theorem QHI(c:Cln f)(m:Xr f)(p:List UInt8)(off:Int)(b:List UInt8):QCp f (plF f (QIh f (Xc f p) off b)):=by
 unfold QIh;by_cases h1:(Xc f p).2.2=0
 case neg=>rw[if_pos h1];exact ZV c m h1
 rw[if_neg (by simpa using h1)];obtain⟨hr,hk,hx⟩:=QNg p h1;rw[hx];exact QNJ c m hr hk off b
theorem QNK(c:Cln f)(m:Xr f)(frm tq:List UInt8):QCp f (plF f (QFd f frm tq)):=by
 unfold QFd QO0;by_cases h0:(Z4 frm).2.2=0
 case neg=>rw[if_pos h0];exact ZV c m h0
 rw[if_neg (by simpa using h0)];by_cases h0':(Z4 tq).2.2=0
 case neg=>rw[if_pos h0'];exact ZV c m h0'
 rw[if_neg (by simpa using h0')];by_cases h1:(ZH f frm).2=0
 case neg=>rw[if_pos h1];exact ZV c m h1
 rw[if_neg (by simpa using h1)];by_cases h2:(ZH f frm).1.k<0
 ·rw [if_pos h2];exact ZV c m (by decide)
 rw[if_neg h2];by_cases h3:(ZH f tq).2=0
 case neg=>rw[if_pos h3];exact ZV c m h3
 rw[if_neg (by simpa using h3)];by_cases h4:frm=tq\/(ZH f tq).1.k=(ZH f frm).1.k
 ·rw [if_pos h4];exact QIu c m
 rw[if_neg h4];obtain⟨la,sa,a1,a2,a3,a4,a5,a6,a7⟩:=QFt h1;obtain⟨lb,sb,b1,b2,b3,b4,b5,b6,b7⟩:=QFt h3;generalize (ZH f frm).1=a at*
 generalize (ZH f tq).1=b at*
 obtain⟨fa,na,kA⟩:=a;obtain⟨fb,nb,kB⟩:=b;dsimp only at*
 subst a6 b6;obtain⟨ka,hka,rfl⟩:=QDi a7 h2;obtain⟨hk24,hkf⟩:=Jb hka;by_cases h5:(QF f (QA f (ka:Nat)).t).k=2/\QLM frm tq=true
 ·rw [if_pos h5];exact ZV c m (by decide)
 rw[if_neg h5];by_cases h6:0<=kB/\((QF f (QA f (ka:Nat)).t).k=2\/(QF f (QA f kB).t).k=2)
 ·rw [if_pos h6];exact ZV c m (by decide)
 rw[if_neg h6];have hua:=hkf.1.1;have hfr:=QFs b4;have hfb:=QNT c.dg hfr;have hta:=J3 hua;have hRE:RE ⟨(QA f (ka:Nat)).u,fb,nb,(QA f (ka:Nat)).t⟩:= .inr ⟨hua,hfb.1,hfb.2.1,hta.2.2.1,hta.2.2.2.1,b3⟩;have hE:=QC2 hRE;have hE0:=QC2 QKN;unfold QIi;dsimp only;by_cases h7:kB<0/\fa=fb
 ·rw [if_pos h7];have hno:=QHT b7 h7.1;have m2:Xr ([Stp.wr ⟨17+(ka:Nat),ZR ⟨(QA f (ka:Nat)).u,fb,nb,(QA f (ka:Nat)).t⟩,3,fb,0⟩].foldl QAg f):=Jc m _ ⟨rfl,rfl⟩ λs hs=>by
   rw[xg.1 hs];show(2:Int)<=17+(ka:Nat);omega
  refine⟨?_,m2⟩;show Cln (Zj f (17+(ka:Nat)) (ZR ⟨(QA f (ka:Nat)).u,fb,nb,(QA f (ka:Nat)).t⟩));exact c.nam (ka:=ka) hk24 hua (e:=⟨(QA f (ka:Nat)).u,fb,nb,(QA f (ka:Nat)).t⟩) hua rfl (by show fb=_;rw[hkf.1.2.1];exact h7.2.symm) (by rw[QNd];exact hE.1) (by rw[QDf hk24,if_pos rfl,hE.2]) (λi hi=>by rw[QDf hk24,if_neg hi]) (λi hi _=>QEO i (by omega)) (QNV hk24 _) (λk hk hne hu hp e=>QC5 hno hk ⟨⟨hu,hp,c.dg k hk hu⟩,e⟩)
 rw[if_neg h7];split
 ·exact ZV c m (by decide)
 rename_i kb hkb;have hb:kb<24/\ka≠kb/\((QA f (kb:Nat)).u=true->(QF f (QA f (kb:Nat)).t).k≠2)/\((QF f (QA f (ka:Nat)).t).k=2->(QA f (kb:Nat)).u=false)/\∀k:Nat,k<24->k≠ka->k≠kb->(QA f (k:Nat)).u=true->(QA f (k:Nat)).p=fb->(QA f (k:Nat)).n≠nb:=by
  by_cases h8:kB<0
  ·rw [if_pos h8]at hkb;have hno:=QHT b7 h8;unfold frE at hkb;have e1:=yj.1 (wl hkb);have e2:=qe hkb;replace e2:(QA f (kb:Nat)).u=false:=of_decide_eq_true e2;refine⟨e1,λe=>?_,λe=>?_,λ_=>e2,λk hk _ _ hu hp e=>QC5 hno hk ⟨⟨hu,hp,c.dg k hk hu⟩,e⟩⟩
   ·subst e;rw[e2]at hua;cases hua
   ·rw [e2]at e;cases e
  ·rw [if_neg h8]at hkb;obtain⟨j,hj,rfl⟩:=QDi b7 h8;obtain⟨hj24,hjf⟩:=Jb hj;have e:j=kb:=by simpa using hkb
   subst e;refine⟨hj24,λe=>h4 (.inr (by omega)),λ_ q=>h6 ⟨by omega,.inr q⟩,λq=>absurd ⟨by omega,.inl q⟩ h6,λk hk _ hne hu hp=>?_⟩;have:=c.db' hne hk hj24 hu hjf.1.1 (by rw[hp,hjf.1.2.1]);rw[hjf.2]at this;exact this
 obtain⟨hb24,hab,hb2,hb0,hbn⟩:=hb;have hP:QFr f (λk=>k≠ka/\k≠kb) fb:=by
  by_cases hT:(QF f (QA f (ka:Nat)).t).k=2
  ·refine QQG _ lb rfl fb b4 λl1 s l2 q j e e1 e2=>?_;obtain⟨hj24,hjf⟩:=Jb e2;refine⟨λej=>h5 ⟨hT,?_⟩,λej=>?_⟩
   ·subst ej;have hq:q=fa:=hjf.1.2.1.symm.trans hkf.1.2.1;subst hq;have hs:s=na:=hjf.2.symm.trans hkf.2;subst hs;have hl:=QNb c _ l1 la q rfl e1 a4;subst hl;unfold QLM QG5;rw[wb];left;refine decide_eq_true ⟨b2,a2,?_,?_⟩
    ·rw [a1,b1,e];simp
    ·rw [a1,b1,e,y7];exact un rfl
   ·subst ej;have:=hb0 hT;rw[hjf.1.1]at this;cases this
  ·exact QNX hfr b5 λk hk hu h2=>⟨λe=>hT (by rw[<-e];exact h2),λe=>hb2 (by rw[<-e];exact hu) (by rw[<-e];exact h2)⟩
 have m2:Xr ([Stp.wr ⟨17+(kb:Nat),ZR ⟨(QA f (ka:Nat)).u,fb,nb,(QA f (ka:Nat)).t⟩,3,fb,0⟩,.bar,.wr ⟨17+(ka:Nat),ZR ZG,3,fa,0⟩].foldl QAg f):=by
  refine Jc m _ ⟨rfl,rfl⟩ λs hs=>?_;simp only[zj,yz,or_false]at hs;rcases hs with rfl|rfl|rfl
  ·show (2:Int)<=17+(kb:Nat);omega
  ·trivial
  ·show (2:Int)<=17+(ka:Nat);omega
 refine⟨?_,m2⟩;show Cln (Zj (Zj f (17+(kb:Nat)) (ZR ⟨(QA f (ka:Nat)).u,fb,nb,(QA f (ka:Nat)).t⟩)) (17+(ka:Nat)) (ZR ZG));refine c.mov (ka:=ka) (kb:=kb) hk24 hb24 hab hua (e:=⟨(QA f (ka:Nat)).u,fb,nb,(QA f (ka:Nat)).t⟩) hua rfl (by rw[QNd];exact hE0.1) (by rw[QEO kb (by omega),QNd];exact hE.1) (by rw[QDf hk24,if_pos rfl,hE0.2];rfl) (by rw[QDf hk24,if_neg (by omega),QDf hb24,if_pos rfl,hE.2]) (λj h1 h2=>by rw[QDf hk24,if_neg h1,QDf hb24,if_neg h2]) (λk h1 h2 _=>by rw[QEO k (by omega),QEO k (by omega)]) (λn=>by rw[QNV hk24,QNV hb24]) hb2 hP b5 hbn
theorem QNL(c:Cln f)(m:Xr f)(a:Act):QCp f (plF f (QEL f a)):=by
 unfold QEL;repeat' split
 ·exact QKM c m _ 1 (.inl rfl)
 ·exact QKM c m _ 2 (.inr rfl)
 ·exact QHI c m _ _ _
 ·exact QHI c m _ _ _
 ·exact QPb c m _ _
 ·exact QNK c m _ _
 ·exact QNf c m _
 ·exact QIu c m
end
theorem QIp:∀(l:List Stp) (d:Dk),d.safe.length=65->(∀s∈l,QFf s)->rdS (some (YT [] d l).1)=l.foldl QAg (rdS (some d))
 |[],d,_,_=>rfl
 | .bar::l,d,hd,hs=>by
  have e:YT [] d (.bar::l)=YT [] (QG2 d) l:=if_neg yz;rw[e,QIp l (QG2 d) hd λs h=>hs s (zi _ h)];rfl
 | .wr w::l,d,hd,hs=>by
  have e:YT [] d (.wr w::l)=YT [] (wrD d w) l:=if_neg yz;have hw:w.s.length=32/\0<=w.a/\w.a<65:=hs _ zm;rw[e,QIp l (wrD d w) hd λs h=>hs s (zi _ h)];have:rdS (some (wrD d w))=Zj (rdS (some d)) w.a w.s:=funext λn=>QQ1 d w n ⟨hw.2.1,by rw[hd];exact hw.2.2⟩;rw[this];rfl
theorem QC0{f g:Int->List UInt8}(h:∀n:Int,0<=n->g n=f n)(c:Cln f)(m:Xr f):QCp f g:=
 ⟨c.same (QMa h) (λk _=>by rw[h _ (by omega)]) (QMZ h),by unfold Xr;rw[h 0 (by omega),h 1 (by omega)];exact m⟩
theorem QNM(h:Fd [] d N)(c:Cln (rdS (some d)))(m:Xr (rdS (some d)))(a:Act):QCp (rdS (some d)) (rdS (some (doR [] d a).1)):=by
 unfold doR;split
 ·exact QC0 (λn h0=>QFl _ _ _ _ _ _ h0) c m
 split
 ·exact QC0 (λn h0=>QFl _ _ _ _ _ _ h0) c m
 split
 ·exact QC0 (λn h0=>QFl _ _ _ _ _ _ h0) c m
 split
 ·exact QC0 (λn h0=>rfl) c m
 have hw:=QNL c m a;have hp:=QJ8 (rdS (some d)) a;generalize QEL (rdS (some d)) a=x at*
 unfold plF at hw;unfold runP;split
 ·exact ⟨c,m⟩
 ·rename_i h1;rw[if_neg h1]at hw;rw[QIp x.2 d h.n hp.1];exact hw
theorem QJ9(hl:d.safe.length=65):J0 (Xa (some d))↔Xr (rdS (some d)):=by
 have e:∀k:Nat,k<65->imS (Xa (some d)) (k:Nat)=rdS (some d) (k:Nat):=by
  intro k hk;unfold imS Xa;rw[uy,zo,y8,jg (by omega)];rfl
 have e0:=e 0 (by omega);have e1:=e 1 (by omega);unfold J0 Xr;rw[show imS (Xa (some d)) 0=_ from e0,show imS (Xa (some d)) 1=_ from e1];constructor
 ·exact λh=>h.2
 ·intro h;refine⟨?_,h⟩;unfold Xa;rw[ze,yy,hl]
def QKA(b:Bool)(bad:List Int)(d:Dk):List (Nat×Ob):=QHU 1 2 3 4 5 b bad d++[(6,.cells 1 [.ptr 1 0])]
def frR:Nat->Nat|1=>8|2=>10|3=>11|4=>9|5=>7|6=>20|j=>j
def frS(d:Dk)(T:Nat->Nat):S:=⟨[(2,.ptr 6 0)],QKA false [] d++Qv 0 [] T,7⟩
theorem QNN(image:List (List UInt8))(hm:QDN image)(c4:J0 image):FnH Tryz.prog 9 [.d (QAe image)] [] 0 [] (.ptr 6 0) (QKA false [] (dk0 image)) 7:=by
 have hn:image.length=65:=c4.1;have hF:FnH Tryz.prog 18 [.d (QAe image)] [] 0 [] (.tup [.ptr 7 0,.d (.it .i64 0)]) (QHU 7 9 10 8 6 false [] (dk0 image)) 11:=QHV image om;have f0:Fd [] (dk0 image) 0:=Fd.dk0 hm c4.1;have hi0:Xa (some (dk0 image))=image:=QDj (dk0 image);have hMt:=QIv (b:=false) f0 (by rw[hi0];exact c4);generalize dk0 image=d0 at*
 refine QV i9 λT=>?_;(repeat' (conv=>whnf);first|refine CallI.byH hF [] rfl ⟨rfl,by decide,by with_unfolding_all exact rfl⟩ trivial rfl rfl ?_|refine CallI.h hMt [8,10,11,9,7] ?_|refine gOI ?_|intro x hx hu|intro h|apply sS);all_goals try omega
 conv=>whnf
 refine⟨frS d0 T,Wk.ren frR ?_ ?_ rfl rfl,rfl,rr,rr⟩
 ·exact rr
 ·exact rr
theorem QLc(image:List (List UInt8))(h:¬(1<=image.length/\image.length<=65)):FnC Tryz.prog 9 [.d (QAe image)] (.d (.ot (.pointer none))):=by
 have hF:FnC Tryz.prog 18 [.d (QAe image)] _:=QNh image h;have hMt:FnC Tryz.prog 20 [.d (.ot (.pointer none))] (.tup [.d (.ot (.pointer none)),.d (.it .i64 1)]):=by
  have h:=QG8 none trivial;rw[show QBz none= .tup [.d (.ot (.pointer none)),.d (.it .i64 1)] by unfold QBz;rw[if_neg (by decide)];rfl]at h;exact h
 refine QK i9 ?_;(repeat' (conv=>whnf);first|refine cEk hF ?_|refine cEk hMt ?_|refine gOI ?_|intro x hx hu|intro h|apply sS);all_goals first|omega|rfl
theorem QLd(image:List (List UInt8))(hm:QDN image)(h:1<=image.length/\image.length<=65)(c4:¬J0 image):FnC Tryz.prog 9 [.d (QAe image)] (.d (.ot (.pointer none))):=by
 have hd0:Zs (some (dk0 image)):=⟨hm,λw hw=>(by cases hw),h.2,yc _⟩;have hi0:Xa (some (dk0 image))=image:=QDj (dk0 image);have hF:FnH Tryz.prog 18 [.d (QAe image)] [] 0 [] (.tup [.ptr 7 0,.d (.it .i64 0)]) (QHU 7 9 10 8 6 false [] (dk0 image)) 11:=QHV image h;have hMt:=QG8 (some (dk0 image)) hd0;rw[show QBz (some (dk0 image))= .tup [.d (.ot (.pointer none)),.d (.it .i64 8)] by
  unfold QBz;rw[hi0,if_neg c4,if_neg (λh2=>by have h':image=[]:=h2;rw[h']at h;simp at h)]]at hMt
 generalize dk0 image=d0 at*
 refine QK i9 ?_;(repeat' (conv=>whnf);first|refine CallI.byH hF [] rfl ⟨rfl,by decide,by with_unfolding_all exact rfl⟩ trivial rfl rfl ?_|refine rFk hMt ?_|refine gOI ?_|intro x hx hu|intro h|apply sS);all_goals first|omega|rfl
def QIq(a:Act):Bool:=decide (a.p.length<=100/\a.q.length<=100/\a.b.length<=300/\a.bad.length<=30)
def QEM(l:List Act)(m:Int):Bool:=(l.take 100).all QIq&&decide ((l.length:Int)<=m)
theorem QNO(l:List Act)(m:Int):FnC Tryz.prog 7 [.d (.fs 6 (l.map QB5)),.d (.it .i64 m)] (.d (.bl (QEM l m))):=by
 have hl:(l.map QB5).length=l.length:=ze ..;have hno:=fun(k:Nat) (a:Act) (hk:k<100) (hx:l[k]? =some a) (h:QIq a=false)=>show QEM l m=false from by
  unfold QEM;rw[Wz];left;rw[List.all_eq_false];exact⟨a,yw (i:=k) (by rw[x9,if_pos hk];exact hx),by simp[h]⟩
 have hyes:=fun(k:Nat) (hk:k<=l.length) (h1:∀j:Nat,j<k->∀a,l[j]? =some a->QIq a=true) (h2:¬(k<l.length/\k<100))=>show QEM l m=decide ((l.length:Int)<=m)from by
  unfold QEM;have:(l.take 100).all QIq=true:=by
   rw[zb];intro a ha;obtain⟨j,hj,rfl⟩:=uh ha;rw[z7]at hj;exact h1 j om _ (by rw[xo,zk om])
  rw[this,xl]
 generalize QEM l m=r at*
 refine QK i7 ?_;(repeat' (conv=>whnf);first|refine QC ?_|intro x hx hu|intro h|apply sS);conv=>whnf
 refine Qu QE (λk:Nat=>k<=l.length/\k<=100/\∀j:Nat,j<k->∀a,l[j]? =some a->QIq a=true) (λk=>⟨[(0,.d (.fs 6 (l.map QB5))),(1,.d (.it .i64 m)),(5,.d (.it .i64 (k:Nat)))],[],0⟩) (λk=>l.length-k) 0 ⟨yc _,yc _,λj hj=>by omega⟩ ⟨rr,trivial,rfl⟩ ?_;intro k hk0;have hk:=hk0.1;have hk1:=hk0.2.1;have hk2:=hk0.2.2;by_cases hkl:k<l.length/\k<100
 ·obtain ⟨a,hx⟩:=Q8 hkl.1;have hn:=hno k a hkl.2 hx;have hb1:(QG a.b).length=a.b.length:=ze ..;have hb2:(vI a.bad).length=a.bad.length:=ze ..;have hkl1:=hkl.1;have hkl2:=hkl.2;by_cases hla:QIq a=true
  ·have h4:=of_decide_eq_true hla;obtain⟨q1,q2,q3,q4⟩:=h4;have hnx:∀j:Nat,j<k+1->∀a,l[j]? =some a->QIq a=true:=λj hj a' ha'=>by
    by_cases hjk:j=k
    ·rw [hjk,hx]at ha';obtain rfl:=za ha';exact hla
    ·exact hk2 j om a' ha'
   (repeat' (conv=>whnf);first|with_reducible refine Zr hx ?_|refine QC ?_|intro x hx hu|intro h|apply sS);all_goals try omega
   exact again (k+1) ⟨by omega,by omega,hnx⟩ (by first|omega|(dsimp only;omega)) (ai rfl (ai rfl (ai (QM om) trivial))) trivial rfl
  ·have h4:¬(a.p.length<=100/\a.q.length<=100/\a.b.length<=300/\a.bad.length<=30):=λh=>hla (decide_eq_true h);have hr:=hn (by simpa using hla);(repeat' (conv=>whnf);first|with_reducible refine Zr hx ?_|refine QC ?_|intro x hx hu|intro h|apply sS);all_goals first|omega|exact Xo hr.symm
 ·have hr:=hyes k hk hk2 hkl;(repeat' (conv=>whnf);first|refine QC ?_|intro x hx hu|intro h|apply sS);all_goals try omega
  all_goals exact Xo (by rw[hr,hl])
end Go.Proofs.YtikgcbioagmkkaaGreatDoor
