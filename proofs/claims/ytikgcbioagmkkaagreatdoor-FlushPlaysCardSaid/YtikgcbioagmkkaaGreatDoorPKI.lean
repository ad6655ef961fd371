/- Contracts of the functions that the law reaches, and the law. Conditions: none. -/
import Derived.Test.YtikgcbioagmkkaaGreatDoorPKH
import Derived.Test.YtikgcbioagmkkaaGreatDoorPKE
import Derived.Test.YtikgcbioagmkkaaGreatDoorPKK
import Derived.Test.YtikgcbioagmkkaaGreatDoorPKD
import Derived.Test.YtikgcbioagmkkaaGreatDoorPKF
import Derived.Test.YtikgcbioagmkkaaGreatDoorPKN
import Derived.Test.YtikgcbioagmkkaaGreatDoorPKM
import Derived.Test.YtikgcbioagmkkaaGreatDoorPKG
import Derived.Test.YtikgcbioagmkkaaGreatDoorPSE
set_option maxRecDepth 100000
set_option linter.all false
set_option maxHeartbeats 16000000
namespace Go.Proofs.YtikgcbioagmkkaaGreatDoor
open Go.Sy
structure Act where
 k:Int
 p:List UInt8
 q:List UInt8
 n:Int
 b:List UInt8
 bad:List Int
def ZV(a:Act):List D:=[.it .i64 a.k,.st a.p,.st a.q,.it .i64 a.n,.fs 1 (QD a.b),.fs 1 (vI a.bad)]
structure QEG(a:Act):Prop where
 p:a.p.length<=100
 q:a.q.length<=100
 b:a.b.length<=300
 bad:a.bad.length<=30
def QAJ(f:Int->List UInt8)(a:Act):Pln:=
 if a.k=0 then mkP f a.p 1 else if a.k=1 then mkP f a.p 2 else if a.k=2 then QA0 f a.p a.n a.b else if a.k=3 then QBH f a.p a.b else
 if a.k=4 then QBl f a.p a.n else if a.k=5 then QBm f a.p a.q else if a.k=6 then QBn f a.p else(0,[])
variable {b b':Bool}
variable {bad bad' ba:List Int}
variable {d d':Dk}
variable {N n i:Nat}
theorem QFY(h:Fd bad d N)(p:List UInt8)(hp:p.length<=100000):
  FnH Tryz.prog 47 [.ptr 5 0,.d (.st p)] (Qa b bad d) 6 [0,5] (.d (.it .i64 (runP bad d (mkP (rdS (some d)) p 1)).2)) (Qa b bad (runP bad d (mkP (rdS (some d)) p 1)).1) 6:=by
 have h1:=QKW (b:=b) h p hp 1;generalize runP bad d (mkP (rdS (some d)) p 1)=R at*
 refine QL i47 λT=>?_;(repeat' (conv=>whnf);first|refine CallI.h h1 [0,1,2,3,4,5] ?_|refine gOI ?_|intro x hx hu|intro h|apply sS);exact QH
theorem QNX(h:Fd bad d N)(p:List UInt8)(hp:p.length<=100000):
  FnH Tryz.prog 89 [.ptr 5 0,.d (.st p)] (Qa b bad d) 6 [0,5] (.d (.it .i64 (runP bad d (mkP (rdS (some d)) p 2)).2)) (Qa b bad (runP bad d (mkP (rdS (some d)) p 2)).1) 6:=by
 have h1:=QKW (b:=b) h p hp 2;generalize runP bad d (mkP (rdS (some d)) p 2)=R at*
 refine QL i89 λT=>?_;(repeat' (conv=>whnf);first|refine CallI.h h1 [0,1,2,3,4,5] ?_|refine gOI ?_|intro x hx hu|intro h|apply sS);exact QH
theorem QPc(h:Fd bad d N)(a:Act)(ha:QEG a)(h7:a.k≠7):
  FnH Tryz.prog 40 [.ptr 5 0,.dg 6 (ZV a)] (Qa b bad d) 6 [0,5] (.d (.it .i64 (runP bad d (QAJ (rdS (some d)) a)).2)) (Qa b bad (runP bad d (QAJ (rdS (some d)) a)).1) 6:=by
 have hap:=ha.p;have haq:=ha.q;have hab:=ha.b;unfold QAJ;obtain⟨k,p,q,n,bb,ba⟩:=a;dsimp only at*
 have g0:=QFY (b:=b) h p om;have g1:=QNX (b:=b) h p om;have g2:=QNU (b:=b) h p om n bb om;have g3:=QFX (b:=b) h p om bb om;have g4:=QNQ (b:=b) h p om n;have g5:=QLt (b:=b) h p q om om;have g6:=QLo (b:=b) h p om;show FnH _ _ [.ptr 5 0,.dg 6 [.it .i64 k,.st p,.st q,.it .i64 n,.fs 1 (QD bb),.fs 1 (vI ba)]] _ _ _ _ _ _;by_cases c0:k=0
 ·subst c0;rw[if_pos rfl];generalize runP bad d (mkP (rdS (some d)) p 1)=R at*
  refine QL i40 λT=>?_;(repeat' (conv=>whnf);first|refine CallI.h g0 [0,1,2,3,4,5] ?_|refine gOI ?_|intro x hx hu|intro h|apply sS);exact QH
 ·rw [if_neg c0];by_cases c1:k=1
  ·subst c1;rw[if_pos rfl];generalize runP bad d (mkP (rdS (some d)) p 2)=R at*
   refine QL i40 λT=>?_;(repeat' (conv=>whnf);first|refine CallI.h g1 [0,1,2,3,4,5] ?_|refine gOI ?_|intro x hx hu|intro h|apply sS);exact QH
  ·rw [if_neg c1];by_cases c2:k=2
   ·subst c2;rw[if_pos rfl];generalize runP bad d (QA0 (rdS (some d)) p n bb)=R at*
    refine QL i40 λT=>?_;(repeat' (conv=>whnf);first|refine CallI.h g2 [0,1,2,3,4,5] ?_|refine gOI ?_|intro x hx hu|intro h|apply sS);exact QH
   ·rw [if_neg c2];by_cases c3:k=3
    ·subst c3;rw[if_pos rfl];generalize runP bad d (QBH (rdS (some d)) p bb)=R at*
     refine QL i40 λT=>?_;(repeat' (conv=>whnf);first|refine CallI.h g3 [0,1,2,3,4,5] ?_|refine gOI ?_|intro x hx hu|intro h|apply sS);exact QH
    ·rw [if_neg c3];by_cases c4:k=4
     ·subst c4;rw[if_pos rfl];generalize runP bad d (QBl (rdS (some d)) p n)=R at*
      refine QL i40 λT=>?_;(repeat' (conv=>whnf);first|refine CallI.h g4 [0,1,2,3,4,5] ?_|refine gOI ?_|intro x hx hu|intro h|apply sS);exact QH
     ·rw [if_neg c4];by_cases c5:k=5
      ·subst c5;rw[if_pos rfl];generalize runP bad d (QBm (rdS (some d)) p q)=R at*
       refine QL i40 λT=>?_;(repeat' (conv=>whnf);first|refine CallI.h g5 [0,1,2,3,4,5] ?_|refine gOI ?_|intro x hx hu|intro h|apply sS);exact QH
      ·rw [if_neg c5];by_cases c6:k=6
       ·subst c6;rw[if_pos rfl];generalize runP bad d (QBn (rdS (some d)) p)=R at*
        refine QL i40 λT=>?_;(repeat' (conv=>whnf);first|refine CallI.h g6 [0,1,2,3,4,5] ?_|refine gOI ?_|intro x hx hu|intro h|apply sS);exact QH
       ·rw [if_neg c6,Z8];refine QL i40 λT=>?_;(repeat' (conv=>whnf);first|refine gOI ?_|intro x hx hu|intro h|apply sS);exact QH
def QDJ(x:Pln):Prop:=(∀s∈x.2,QEy s)/\x.2.length<=5
theorem QA1(e:Int):QDJ (e,[]):=⟨λs hs=>(by cases hs),z7 _⟩
theorem QRi{e:Int}{s:Stp}(h:QEy s):QDJ (e,[s]):=⟨λx hx=>(by rw[yr.1 hx];exact h),(by show 1<=5;omega)⟩
theorem QNY(f:Int->List UInt8)(p:List UInt8)(kind:Int):QDJ (mkP f p kind):=by
 unfold mkP mkQ;split
 ·exact QA1 _
 ·split
  ·exact QA1 _
  ·split
   ·rename_i n k h1 h2;have hn:=QJE h1;have hk:=QCX h2;refine⟨λs hs=>?_,by show 2<=5;omega⟩;simp only[zi,xq,or_false]at hs;rcases hs with rfl|rfl
    ·exact QED (n:Nat) om _ _ _
    ·exact XZ (k:Nat) om _ _
   ·exact QA1 _
theorem QPd(f:Int->List UInt8)(n:Int)(hn:0<=n/\n<16)(x:Ino)(hx:RI x)(off:Int)(c:List UInt8):QDJ (QDH f n x off c):=by
 unfold QDH;split
 ·exact QA1 _
 ·split
  ·exact QA1 _
  ·split
   ·exact QA1 _
   ·have hfr:∀j∈frB f (nd (max x.z (off+c.length))-nd x.z),1<=j/\j<=24:=λj hj=>QDY hj;generalize frB f (nd (max x.z (off+c.length))-nd x.z)=fr at*
    have hyb:=λi=>QGS hx hfr (max x.z (off+c.length)) (had:=nd x.z) i;generalize Xe x (max x.z (off+c.length)) (nd x.z) fr=y at*
    have h1:=QGT (f:=f) (n:=n) (x:=x) (y:=y) (had:=nd x.z) (off:=off) (b:=c) (k:=4) hyb;have h2:= @QBv f n x y (nd x.z) off c 4;refine⟨λs hs=>?_,?_⟩
    ·rcases yd.1 hs with hs|hs
     ·exact h1 s hs
     ·split at hs
      ·cases hs
      ·rw [yr.1 hs];exact QED n hn _ _ _
    ·show ((_:List Stp)++(_:List Stp)).length<=5;rw[zu];split
     ·simp only[xv];omega
     ·simp only[xc];omega
theorem QKf(f:Int->List UInt8)(p:List UInt8)(off:Int)(c:List UInt8):QDJ (QA0 f p off c):=by
 unfold QA0 QEw;split
 ·exact QA1 _
 ·exact QPd f _ (QBJ f p) _ (JL f p) _ _
theorem QKg(f:Int->List UInt8)(p:List UInt8)(c:List UInt8):QDJ (QBH f p c):=QKf f p _ c
theorem QPe(f:Int->List UInt8)(p:List UInt8)(tz:Int):QDJ (QBl f p tz):=by
 unfold QBl QPG;split
 ·exact QA1 _
 ·split
  ·exact QA1 _
  ·split
   ·exact QA1 _
   ·exact QRi (QED _ (QBJ f p) _ _ _)
theorem QPf(f:Int->List UInt8)(p:List UInt8):QDJ (QBn f p):=by
 have hk:=QBt (f:=f) (p:=p);unfold QBn QM3;split
 ·exact QA1 _
 ·split
  ·exact QA1 _
  ·split
   ·exact QA1 _
   ·exact QRi (XZ _ om _ _)
theorem QPg(f:Int->List UInt8)(a b:Plc)(x:Ent)(ha:0<=a.k/\a.k<24)(hb:b.k<24):QDJ (QHc f a b x):=by
 unfold QHc;split
 ·exact QRi (XZ _ ha _ _)
 ·split
  ·exact QA1 _
  ·rename_i k hk;have h:0<=((k:Nat):Int)/\((k:Nat):Int)<24:=by
    split at hk
    ·have:=QCX hk;omega
    ·have:=za hk;omega
   refine⟨λs hs=>?_,by show 3<=5;omega⟩;simp only[zi,xq,or_false]at hs;rcases hs with rfl|rfl|rfl
   ·exact XZ _ h _ _
   ·trivial
   ·exact XZ _ ha _ _
theorem QPh(f:Int->List UInt8)(p q:List UInt8):QDJ (QBm f p q):=by
 have ka:=QBt (f:=f) (p:=p);have kb:=QBt (f:=f) (p:=q);unfold QBm QM2;repeat' split
 all_goals first|exact QA1 _|exact QPg f _ _ _ om om
theorem QPi(f:Int->List UInt8)(a:Act):QDJ (QAJ f a):=by
 unfold QAJ;repeat' split
 all_goals first|exact QNY .. |exact QKf .. |exact QKg .. |exact QPe .. |exact QPh .. |exact QPf .. |exact QA1 _
theorem Fd.runP(h:Fd bad d N){x:Pln}(hx:QDJ x)(hM:N+5<=90000):Fd bad (Go.Proofs.YtikgcbioagmkkaaGreatDoor.runP bad d x).1 (N+5):=by
 unfold Go.Proofs.YtikgcbioagmkkaaGreatDoor.runP;split
 ·exact h.mono om hM
 ·exact (Fd.run x.2 h (by have:=hx.2;omega) hx.1).mono (by have:=hx.2;omega) hM
theorem Fd.z0f(h:Fd bad d N)(hb:bad'.length<=1000000):Fd bad' (Go.Proofs.YtikgcbioagmkkaaGreatDoor.z0f d) N:=
 ⟨h.s,h.w,h.r,⟨⟨Vl _,(by show(0:Int)<=N;omega)⟩,h.b.w,h.b.l,h.b.s,h.b.s0⟩,h.n,hb,h.ep,h.lg,h.hN⟩
theorem Fd.dk0{l:List (List UInt8)}(hl:XL l)(hn:l.length=65):Fd [] (Go.Proofs.YtikgcbioagmkkaaGreatDoor.dk0 l) 0:=
 ⟨hl,λw hw=>(by cases hw),λw hw=>(by cases hw),⟨⟨Vl _,Vl _⟩,zt _,zt _,(by show l.length<=65;omega),(by show l.length≠0;omega)⟩,hn,z7 _,⟨(by show-((0:Nat):Int)<=0;omega),(by show(0:Int)<=((0:Nat):Int);omega)⟩,⟨[],rfl,λe he=>(by cases he)⟩,by decide⟩
def kA:List UInt8:=[47,97]
def kX:List UInt8:=[120,121]
def k0:Dk:=dk0 Js
def k1:Dk:=(runP [] k0 (mkP (rdS (some k0)) kA 1)).1
def k2:Dk:=(runP [] k1 (QA0 (rdS (some k1)) kA 0 kX)).1
theorem QVF:(runP [] k0 (mkP (rdS (some k0)) kA 1)).2=0:=by decide+kernel
def NoF(F:D):Prop:=F= .ot (.pointer none)\/F= .fp 1 [.ot (.pointer none)]
variable {F:D}
theorem QNZ(h:NoF F):FnC Tryz.prog 50 [.d F] (.d (.bl true)):=by
 rcases h with rfl|rfl;all_goals (
  refine QJ i50 ?_;(repeat' (conv=>whnf);first|refine QA ?_|intro x hx hu|intro h|apply sS);rfl)
theorem QEH(h:NoF F):FnC Tryz.prog 11 [.d F] (.d (.ot (.pointer none))):=by
 have hn:=QNZ h;refine QJ i11 ?_;(repeat' (conv=>whnf);first|refine cEk hn ?_|refine gOI ?_|intro x hx hu|intro h|apply sS);rfl
theorem frN{mem:List (Nat×Ob)}(h:Sy.look n mem=some (.cells 1 [.d (.ot (.pointer none))])):FrA mem [.ptr n 0] [.fp 1 [.ot (.pointer none)]]:=
 FrA.fp n 0 1 1 _ [.ot (.pointer none)] [] [] h (zt _) rfl (.pl _ _ _ _ rfl .nil) .nil
theorem QNa(h:Fd bad d N)(hw0:d.wait≠[]):FnH Tryz.prog 16 [.ptr 0 0] (Z4 b bad d) 5 [0] (.d (.fs 36 (d.wait.map QR))) (Z4 b bad d) 5:=by
 have hn:FnC Tryz.prog 57 [.d (Qg (some d))] (.d (.bl false)):=by
  have:=Ye (some d);rw[show QA5 (some d)=false from decide_eq_false h.b.s0]at this;exact this
 have hne:(d.wait.map QR).isEmpty=false:=by
  cases hw:d.wait with
  |nil=>exact absurd hw hw0
  |cons=>rfl
 have hwl:(d.wait.map QR).length<=90000:=by rw[zb];have:=h.b.w;have:=h.hN;omega
 have hwl2:d.wait.length<=90000:=by have:=h.b.w;have:=h.hN;omega
 refine QL i16 λT=>?_;(repeat' (conv=>whnf);first|with_reducible refine Spl.no hne ?_|refine rFd hn ?_|refine cI i58 ?_|refine gOI ?_|intro x hx hu|intro h|apply sS);all_goals try omega
 refine⟨⟨[(2,.d (.fs 36 (d.wait.map QR)))],Z4 b bad d++Qr 5 [0] T,30⟩,Wk.vwL (ai (Vw.ts' rfl) trivial) (ai (VwO.same _) (ai (VwO.same _) (ai (VwO.same _) (ai (VwO.same _) (ai (VwO.same _) (ai (VwO.same _) (ai (VwO.same _) trivial))))))) rfl,rfl,rr,rr⟩
theorem QLu(h:Fd bad d N)(hl:d.wait=[]):FnH Tryz.prog 16 [.ptr 0 0] (Z4 b bad d) 5 [0] (.d (.fs 36 [])) (Z4 b bad d) 5:=by
 have hn:FnC Tryz.prog 57 [.d (Qg (some d))] (.d (.bl false)):=by
  have:=Ye (some d);rw[show QA5 (some d)=false from decide_eq_false h.b.s0]at this;exact this
 obtain⟨nx,sf,wt,lg,ep⟩:=d;dsimp only at hl;subst hl;refine QL i16 λT=>?_;(repeat' (conv=>whnf);first|refine rFk hn ?_|refine cI i58 ?_|refine gOI ?_|intro x hx hu|intro h|apply sS);all_goals try omega
 all_goals (
  first
  |exact⟨⟨[(2,.d (.fs 36 []))],Z4 b bad ⟨nx,sf,[],lg,ep⟩++Qr 5 [0] T,40⟩,Wk.vwL (ai (Vw.ts' rfl) trivial) (ai (VwO.same _) (ai (VwO.same _) (ai (VwO.same _) (ai (VwO.same _) (ai (VwO.same _) (ai (VwO.same _) (ai (VwO.same _) trivial))))))) rfl,rfl,rr,rr⟩
  |exact⟨⟨[(2,.d (.fs 36 []))],Z4 b bad ⟨nx,sf,[],lg,ep⟩++Qr 5 [0] T,40⟩,Wk.vwL (ai (Vw.eq rfl) trivial) (ai (VwO.same _) (ai (VwO.same _) (ai (VwO.same _) (ai (VwO.same _) (ai (VwO.same _) (ai (VwO.same _) (ai (VwO.same _) trivial))))))) rfl,rfl,rr,rr⟩)
theorem QHu(h:Fd bad d N):FnH Tryz.prog 16 [.ptr 0 0] (Z4 b bad d) 5 [0] (.d (.fs 36 (d.wait.map QR))) (Z4 b bad d) 5:=by
 by_cases hw:d.wait=[]
 ·have:=QLu (b:=b) h hw;rw[hw];exact this
 ·exact QNa h hw
def J6(l:List Wr)(n:Int):Nat:=(l.filter λw=>decide (w.i=n)).length
def wtA(b:Bool)(bad:List Int)(d:Dk)(T:Nat->Nat)(n:Int)(k:Nat):S:=⟨[(7,.d (.it .i64 n)),(9,.d (.it .i64 (J6 (d.wait.take k) n:Nat))),(26,.d (.fs 36 (d.wait.map QR))),(27,.d (.it .i64 (d.wait.length:Nat))),(28,.d (.it .i64 (k:Nat)))],Qa b bad d++Qr 6 [0,5] T,9⟩
theorem QHv(h:Fd bad d N)(p:List UInt8)(hp:p.length<=100000):
  FnH Tryz.prog 21 [.ptr 5 0,.d (.st p)] (Qa b bad d) 6 [0,5] (.tup [.d (.it .i64 (QEz d p).1),.d (.it .i64 (QEz d p).2)]) (Qa b bad d) 6:=by
 have hL:=Jb (some d) h.ok p hp;have hW:=QHu (b:=b) h;have hwl:(d.wait.map QR).length=d.wait.length:=zb ..;have hwb:=h.b.w;have hN:=h.hN;have hA:QEz d p=if(Qj (rdS (some d)) p).2≠0 then(0,(Qj (rdS (some d)) p).2)else((((d.wait.filter λw=>decide (w.i=(Qj (rdS (some d)) p).1)).length:Nat):Int),0):=rfl
 generalize QEz d p=R at*
 generalize Qj (rdS (some d)) p=q at*
 obtain⟨n,e⟩:=q;dsimp only at hA hL;by_cases c1:e=0
 ·subst c1;rw[if_neg (by decide)]at hA;subst hA;refine QL i21 λT=>?_;(repeat' (conv=>whnf);first|refine rFk hL ?_|refine rFk hL ?_|refine CallI.h hW [0,1,2,3,4] ?_|refine cI i11 ?_|refine cI i50 ?_|refine gOI ?_|intro x hx hu|intro h|apply sS);all_goals try omega
  conv=>whnf
  refine Ql QB (λk:Nat=>k<=d.wait.length) (wtA b bad d T n) (λk=>d.wait.length-k) 0 (z7 _) (Wk.en ⟨ai rfl (ai rfl (ai rfl (ai (QK (by rw[hwl])) rr))),rr,rfl⟩) ?_;intro k hk;by_cases hkl:k<d.wait.length
  ·obtain ⟨w,hx⟩:=Qo hkl;have hws:=h.w w (ya hx);have hc:J6 (d.wait.take (k+1)) n=J6 (d.wait.take k) n+if w.i=n then 1 else 0:=by
    unfold J6;rw[QW hx,vr,zu];congr 1;by_cases hwn:w.i=n
    ·simp [hwn]
    ·simp [hwn]
   have hcl:J6 (d.wait.take k) n<=k:=by
    unfold J6;refine xy (u9 ..) ?_;rw[zy];omega
   have hto:∀ {N:Nat} {σ:S} {c:Nat},J6 (d.wait.take (k+1)) n=c->Wk N σ ⟨[(7,.d (.it .i64 n)),(9,.d (.it .i64 (c:Nat))),(26,.d (.fs 36 (d.wait.map QR))),(27,.d (.it .i64 (d.wait.length:Nat))),(28,.d (.it .i64 ((k+1:Nat):Int)))],Qa b bad d++Qr 6 [0,5] T,9⟩->Wk N σ (wtA b bad d T n (k+1)):=λh q=>by unfold wtA;rw[h];exact q
   unfold wtA;generalize J6 (d.wait.take k) n=c at*
   obtain⟨wa,wS,wk,wi,we⟩:=w;obtain⟨g,rfl⟩:=ZO hws;dsimp only at hc;by_cases hwn:wi=n
   ·subst hwn;rw[if_pos rfl]at hc;(repeat' (conv=>whnf);first|with_reducible refine Qk hx ?_|with_reducible refine AtA.mk' ?_|refine gOI ?_|intro x hx hu|intro h|apply sS);all_goals first|omega|(exfalso;dsimp only at*;omega)|skip
    exact⟨k+1,hkl,by first|omega|(dsimp only;omega),hto hc (Wk.en ⟨ai rfl (ai (QK om) (ai rfl (ai rfl (ai (QK om) trivial)))),rr,rfl⟩)⟩
   ·rw [if_neg hwn]at hc;(repeat' (conv=>whnf);first|with_reducible refine Qk hx ?_|with_reducible refine AtA.mk' ?_|refine gOI ?_|intro x hx hu|intro h|apply sS);all_goals first|omega|(exfalso;dsimp only at*;omega)|skip
    exact⟨k+1,hkl,by first|omega|(dsimp only;omega),hto hc (Wk.en ⟨ai rfl (ai (QK om) (ai rfl (ai rfl (ai (QK om) trivial)))),rr,rfl⟩)⟩
  ·have hke:d.wait.take k=d.wait:=z8 om;unfold wtA;rw[hke];unfold J6;(repeat' (conv=>whnf);first|refine QA ?_|intro x hx hu|intro h|apply sS);all_goals try omega
   exact QH
 ·rw [if_pos c1]at hA;subst hA;refine QL i21 λT=>?_;(repeat' (conv=>whnf);first|refine rFk hL ?_|refine rFk hL ?_|refine CallI.h hW [0,1,2,3,4] ?_|refine cI i11 ?_|refine cI i50 ?_|refine gOI ?_|intro x hx hu|intro h|apply sS);all_goals try omega
  all_goals exact QH
theorem QPj{f g:Int->List UInt8}(h:∀n:Int,0<=n->f n=g n)(p:List UInt8)(kind:Int):Yw f p kind=Yw g p kind:=by
 unfold Yw;rw[QBo h,Xk h]
def rwU(bad:List Int)(d:Dk)(T:Nat->Nat)(n:Int)(k:Nat):S:=⟨[(0,.ptr 0 0),(6,.d (.it .i64 n)),(8,.d (.it .i64 (J6 (d.wait.take k) n:Nat))),(9,.d (.it .i64 (k:Nat)))],Qp bad d++Qr 1 [0] T,3⟩
theorem QGX(h:Fd bad d N)(p:List UInt8)(hp:p.length<=100000)(kind tag:Int)(meta':Bool):
  FnH Tryz.prog 63 [.ptr 0 0,.d (.st p),.d (.it .i64 kind),.d (.it .i64 tag),.d (.bl meta')] (Qp bad d) 1 [0] (.d (.it .i64 (synP bad d p kind (if meta'=true then [tag,2]else [tag])).2)) (Qp bad (synP bad d p kind (if meta'=true then [tag,2]else [tag])).1) 1:=by
 have hm:=JO h;have hNw:FnH Tryz.prog 42 [.ptr 0 0] (Qp bad d) 1 [0] (.d (Q9 (QS d))) (Qp bad d) 1:=YI bad d h.ok h.r;have hfe:∀m:Int,0<=m->imS (QS d) m=rdS (some d) m:=λm h0=>(QGJ d m h0).symm;have hL:=Yf (QS d) hm p hp;have hI:=Zb (QS d) hm (Qj (imS (QS d)) p).1;have hS:=λks hne hl=>QN1 h (tgs ks (Yw (rdS (some d)) p kind).1) hne hl;have hA:Yw (imS (QS d)) p kind=if(Qj (imS (QS d)) p).2≠0 then(0,(Qj (imS (QS d)) p).2)else if(Qu (imS (QS d)) (Qj (imS (QS d)) p).1).k≠kind then(0,6)else((Qj (imS (QS d)) p).1,0):=rfl
 rw[QPj hfe]at hA;unfold synP;generalize Yw (rdS (some d)) p kind=R at*
 generalize Qu (imS (QS d)) (Qj (imS (QS d)) p).1=x at*
 generalize Qj (imS (QS d)) p=q at*
 generalize Q9 (QS d)=E at*
 obtain⟨n,e⟩:=q;obtain⟨k,z,b0,b1,b2,b3⟩:=x;dsimp only at hA hI hL;replace hI:FnC Tryz.prog 86 [.d E,.d (.it .i64 n)] (.dg 6 [.it .i64 k,.it .i64 z,.it .i64 b0,.it .i64 b1,.it .i64 b2,.it .i64 b3]):=hI;by_cases c1:e=0
 ·subst c1;rw[if_neg (by decide)]at hA;by_cases c2:k=kind
  ·subst c2;rw[if_neg (λh=>h rfl)]at hA;subst hA;rw[if_neg (λh=>h rfl)];cases meta' with
   |true=>
    have hS2:=hS [tag,2] (by intro h;cases h) (by simp[tgs]);rw[show(if true=true then [tag,2]else [tag])=[tag,2]from rfl];dsimp only at hS2⊢;by_cases hb:d.nx∈bad
    ·rw [if_pos hb,if_pos hb]at hS2;rw[if_pos hb];refine QL i63 λT=>?_;(repeat' (conv=>whnf);first|refine cEk hL ?_|refine cEk hI ?_|refine CallI.h hNw [0] ?_|refine CallI.hp hS2 [0] ?_|refine gOI ?_|intro x hx hu|intro h|apply sS);all_goals try omega
     all_goals exact QH
    ·rw [if_neg hb,if_neg hb]at hS2;rw[if_neg hb];generalize QBq (tgs [tag,2] n) d=D2 at*
     refine QL i63 λT=>?_;(repeat' (conv=>whnf);first|refine cEk hL ?_|refine cEk hI ?_|refine CallI.h hNw [0] ?_|refine CallI.hp hS2 [0] ?_|refine gOI ?_|intro x hx hu|intro h|apply sS);all_goals try omega
     all_goals exact QH
   |false=>
    have hS2:=hS [tag] (by intro h;cases h) (by simp[tgs]);rw[show(if false=true then [tag,2]else [tag])=[tag]from rfl];dsimp only at hS2⊢;by_cases hb:d.nx∈bad
    ·rw [if_pos hb,if_pos hb]at hS2;rw[if_pos hb];refine QL i63 λT=>?_;(repeat' (conv=>whnf);first|refine cEk hL ?_|refine cEk hI ?_|refine CallI.h hNw [0] ?_|refine CallI.hp hS2 [0] ?_|refine gOI ?_|intro x hx hu|intro h|apply sS);all_goals try omega
     all_goals exact QH
    ·rw [if_neg hb,if_neg hb]at hS2;rw[if_neg hb];generalize QBq (tgs [tag] n) d=D2 at*
     refine QL i63 λT=>?_;(repeat' (conv=>whnf);first|refine cEk hL ?_|refine cEk hI ?_|refine CallI.h hNw [0] ?_|refine CallI.hp hS2 [0] ?_|refine gOI ?_|intro x hx hu|intro h|apply sS);all_goals try omega
     all_goals exact QH
  ·rw [if_pos c2]at hA;subst hA;rw[if_pos (by decide)];refine QL i63 λT=>?_;(repeat' (conv=>whnf);first|refine cEk hL ?_|refine cEk hI ?_|refine CallI.h hNw [0] ?_|refine gOI ?_|intro x hx hu|intro h|apply sS);all_goals try omega
   all_goals exact QH
 ·rw [if_pos c1]at hA;subst hA;rw[if_pos (show((0,e):Int×Int).2≠0 from c1)];refine QL i63 λT=>?_;(repeat' (conv=>whnf);first|refine cEk hL ?_|refine cEk hI ?_|refine CallI.h hNw [0] ?_|refine gOI ?_|intro x hx hu|intro h|apply sS);all_goals try omega
  all_goals exact QH
theorem QPk(h:Fd bad d N)(p:List UInt8)(hp:p.length<=100000):
  FnH Tryz.prog 25 [.ptr 0 0,.d (.st p)] (Qp bad d) 1 [0] (.tup [.d (.it .i64 (QEz d p).1),.d (.it .i64 (QEz d p).2)]) (Qp bad d) 1:=by
 have hm:=JO h;have hNw:FnH Tryz.prog 42 [.ptr 0 0] (Qp bad d) 1 [0] (.d (Q9 (QS d))) (Qp bad d) 1:=YI bad d h.ok h.r;have hfe:∀m:Int,0<=m->imS (QS d) m=rdS (some d) m:=λm h0=>(QGJ d m h0).symm;have hL:=Yf (QS d) hm p hp;rw[QBo hfe]at hL;have hwl:(d.wait.map QR).length=d.wait.length:=zb ..;have hwb:=h.b.w;have hN:=h.hN;have hA:QEz d p=if(Qj (rdS (some d)) p).2≠0 then(0,(Qj (rdS (some d)) p).2)else((((d.wait.filter λw=>decide (w.i=(Qj (rdS (some d)) p).1)).length:Nat):Int),0):=rfl
 generalize QEz d p=R at*
 generalize Qj (rdS (some d)) p=q at*
 generalize Q9 (QS d)=E at*
 obtain⟨n,e⟩:=q;dsimp only at hA hL;by_cases c1:e=0
 ·subst c1;rw[if_neg (by decide)]at hA;subst hA;refine QL i25 λT=>?_;(repeat' (conv=>whnf);first|refine cEk hL ?_|refine CallI.h hNw [0] ?_|refine gOI ?_|intro x hx hu|intro h|apply sS);all_goals try omega
  conv=>whnf
  refine Ql QB (λk:Nat=>k<=d.wait.length) (rwU bad d T n) (λk=>d.wait.length-k) 0 (z7 _) Wk.e ?_;intro k hk;by_cases hkl:k<d.wait.length
  ·obtain ⟨w,hx⟩:=Qo hkl;have hws:=h.w w (ya hx);have hc:J6 (d.wait.take (k+1)) n=J6 (d.wait.take k) n+if w.i=n then 1 else 0:=by
    unfold J6;rw[QW hx,vr,zu];congr 1;by_cases hwn:w.i=n
    ·simp [hwn]
    ·simp [hwn]
   have hcl:J6 (d.wait.take k) n<=k:=by
    unfold J6;refine xy (u9 ..) ?_;rw[zy];omega
   have hto:∀ {N:Nat} {σ:S} {c:Nat},J6 (d.wait.take (k+1)) n=c->Wk N σ ⟨[(0,.ptr 0 0),(6,.d (.it .i64 n)),(8,.d (.it .i64 (c:Nat))),(9,.d (.it .i64 ((k+1:Nat):Int)))],Qp bad d++Qr 1 [0] T,3⟩->Wk N σ (rwU bad d T n (k+1)):=λh q=>by unfold rwU;rw[h];exact q
   unfold rwU;generalize J6 (d.wait.take k) n=c at*
   obtain⟨wa,wS,wk,wi,we⟩:=w;obtain⟨g,rfl⟩:=ZO hws;dsimp only at hc;by_cases hwn:wi=n
   ·subst hwn;rw[if_pos rfl]at hc;(repeat' (conv=>whnf);first|with_reducible refine Qk hx ?_|with_reducible refine AtA.mk' ?_|refine QA ?_|intro x hx hu|intro h|apply sS);all_goals first|omega|(exfalso;dsimp only at*;omega)|skip
    exact⟨k+1,hkl,by first|omega|(dsimp only;omega),hto hc (Wk.en (⟨ai rfl (ai rfl (ai (QK om) (ai (QK om) trivial))),rr,rfl⟩))⟩
   ·rw [if_neg hwn]at hc;(repeat' (conv=>whnf);first|with_reducible refine Qk hx ?_|with_reducible refine AtA.mk' ?_|refine QA ?_|intro x hx hu|intro h|apply sS);all_goals first|omega|(exfalso;dsimp only at*;omega)|skip
    exact⟨k+1,hkl,by first|omega|(dsimp only;omega),hto hc (Wk.en (⟨ai rfl (ai rfl (ai (QK om) (ai (QK om) trivial))),rr,rfl⟩))⟩
  ·have hke:d.wait.take k=d.wait:=z8 om;unfold rwU;rw[hke];unfold J6;(repeat' (conv=>whnf);first|refine QA ?_|intro x hx hu|intro h|apply sS);all_goals try omega
   exact QH
 ·rw [if_pos c1]at hA;subst hA;refine QL i25 λT=>?_;(repeat' (conv=>whnf);first|refine cEk hL ?_|refine CallI.h hNw [0] ?_|refine gOI ?_|intro x hx hu|intro h|apply sS);all_goals try omega
  all_goals exact QH
variable {P:Program}
variable {σ τ:S}
variable {K:S->Prop}
theorem QPl{ti:Nat->Option Ty}{ops:List Oper}(h:QX P ti N 17 ops σ K):QX P ti N 17 ops σ K:=h
theorem QPm(h:Wk N σ τ):Wk N σ τ:=h
def d7S(ba:List Int)(d:Dk)(T:Nat->Nat):S:=⟨[(0,.ptr 5 0)],Qa true ba (z0f d)++Qr 6 [0,5] T,40⟩
theorem QRj(h:Fd bad d N)(a:Act)(ha:QEG a)(h7:a.k=7):
  FnH Tryz.prog 40 [.ptr 5 0,.dg 6 (ZV a)] (Qa b bad d) 6 [0,5] (.d (.it .i64 0)) (Qa true a.bad (z0f d)) 6:=by
 have hF:=QNi b bad a.bad d (by have:=h.n;omega) (by have:=ha.bad;omega);obtain⟨k,p,q,n,bb,ba⟩:=a;dsimp only at*
 subst h7;show FnH _ _ [.ptr 5 0,.dg 6 [.it .i64 7,.st p,.st q,.it .i64 n,.fs 1 (QD bb),.fs 1 (vI ba)]] _ _ _ _ _ _;refine QL i40 λT=>?_;(repeat' (conv=>whnf);first|((with_reducible refine QPl ?_);refine QX.mid (d7S ba d T) (Xs QB mixed [0] dkk ?_) ?_)|((with_reducible refine QPm ?_);exact Wk.ren (λk=>bif Nat.beq k 3 then 19 else k) rr rr rfl rfl)|with_reducible exact trivial|with_reducible refine Br.mk ?_ ?_|refine cI i11 ?_|refine cI i50 ?_|refine CallI.h hF [0,1,2,3,4] ?_|refine gOI ?_|intro x hx hu|intro h|apply sS);all_goals try omega
 exact QH
def doR(bad:List Int)(d:Dk)(a:Act):Dk×Int:=
 if a.k=8 then synP bad d a.p 1 [1,2]else if a.k=9 then synP bad d a.p 1 [1]else if a.k=10 then synP bad d a.p 2 [3,2]else if a.k=11 then barP bad d else runP bad d (QAJ (rdS (some d)) a)
theorem Fd.doR(h:Fd bad d N)(a:Act)(hM:N+5<=90000):Fd bad (Go.Proofs.YtikgcbioagmkkaaGreatDoor.doR bad d a).1 (N+5):=by
 unfold Go.Proofs.YtikgcbioagmkkaaGreatDoor.doR;repeat' split
 ·exact (h.synP _ _ _ (by simp) om).mono om hM
 ·exact (h.synP _ _ _ (by simp) om).mono om hM
 ·exact (h.synP _ _ _ (by simp) om).mono om hM
 ·exact (h.barP om).mono om hM
 ·exact h.runP (QPi ..) hM
theorem QPn(h:Fd bad d N)(a:Act)(ha:QEG a)(h7:a.k≠7):
  FnH Tryz.prog 10 [.ptr 5 0,.dg 6 (ZV a)] (Qa b bad d) 6 [0,5] (.d (.it .i64 (doR bad d a).2)) (Qa b bad (doR bad d a).1) 6:=by
 have hap:=ha.p;have h8:=QHt (b:=b) h a.p om;have h9:=QNV (b:=b) h a.p om;have h10:=QKe (b:=b) h a.p om;have h11:=QPa (b:=b) h;have hD:=QPc (b:=b) h a ha h7;unfold doR;generalize runP bad d (QAJ (rdS (some d)) a)=R at*
 generalize synP bad d a.p 1 [1,2]=R8 at*
 generalize synP bad d a.p 1 [1]=R9 at*
 generalize synP bad d a.p 2 [3,2]=R10 at*
 generalize barP bad d=R11 at*
 obtain⟨k,p,q,n,bb,ba⟩:=a;dsimp only at*
 replace hD:FnH Tryz.prog 40 [.ptr 5 0,.dg 6 [.it .i64 k,.st p,.st q,.it .i64 n,.fs 1 (QD bb),.fs 1 (vI ba)]] (Qa b bad d) 6 [0,5] (.d (.it .i64 R.2)) (Qa b bad R.1) 6:=hD;show FnH _ _ [.ptr 5 0,.dg 6 [.it .i64 k,.st p,.st q,.it .i64 n,.fs 1 (QD bb),.fs 1 (vI ba)]] _ _ _ _ _ _;by_cases c8:k=8
 ·subst c8;rw[if_pos rfl];refine QL i10 λT=>?_;(repeat' (conv=>whnf);first|refine CallI.h h8 [0,1,2,3,4,5] ?_|refine gOI ?_|intro x hx hu|intro h|apply sS);exact QH
 rw[if_neg c8];by_cases c9:k=9
 ·subst c9;rw[if_pos rfl];refine QL i10 λT=>?_;(repeat' (conv=>whnf);first|refine CallI.h h9 [0,1,2,3,4,5] ?_|refine gOI ?_|intro x hx hu|intro h|apply sS);exact QH
 rw[if_neg c9];by_cases c10:k=10
 ·subst c10;rw[if_pos rfl];refine QL i10 λT=>?_;(repeat' (conv=>whnf);first|refine CallI.h h10 [0,1,2,3,4,5] ?_|refine gOI ?_|intro x hx hu|intro h|apply sS);exact QH
 rw[if_neg c10];by_cases c11:k=11
 ·subst c11;rw[if_pos rfl];refine QL i10 λT=>?_;(repeat' (conv=>whnf);first|refine CallI.h h11 [0,1,2,3,4,5] ?_|refine gOI ?_|intro x hx hu|intro h|apply sS);exact QH
 rw[if_neg c11];refine QL i10 λT=>?_;(repeat' (conv=>whnf);first|refine CallI.h hD [0,1,2,3,4,5] ?_|refine gOI ?_|intro x hx hu|intro h|apply sS);all_goals try omega
 exact QH
theorem QRk(h:Fd bad d N)(a:Act)(ha:QEG a)(h7:a.k=7):
  FnH Tryz.prog 10 [.ptr 5 0,.dg 6 (ZV a)] (Qa b bad d) 6 [0,5] (.d (.it .i64 0)) (Qa true a.bad (z0f d)) 6:=by
 have hD:=QRj (b:=b) h a ha h7;obtain⟨k,p,q,n,bb,ba⟩:=a;dsimp only at*
 subst h7;replace hD:FnH Tryz.prog 40 [.ptr 5 0,.dg 6 [.it .i64 7,.st p,.st q,.it .i64 n,.fs 1 (QD bb),.fs 1 (vI ba)]] (Qa b bad d) 6 [0,5] (.d (.it .i64 0)) (Qa true ba (z0f d)) 6:=hD;show FnH _ _ [.ptr 5 0,.dg 6 [.it .i64 7,.st p,.st q,.it .i64 n,.fs 1 (QD bb),.fs 1 (vI ba)]] _ _ _ _ _ _;refine QL i10 λT=>?_;(repeat' (conv=>whnf);first|refine CallI.h hD [0,1,2,3,4,5] ?_|refine gOI ?_|intro x hx hu|intro h|apply sS);exact QH
theorem QPo(h:Fd bad d N)(hN5:N<=5000)(a:Act)(ha:QEG a)(h7:a.k≠7):
  FnH Tryz.prog 24 [.ptr 0 0,.dg 6 (ZV a)] (Qp bad d) 1 [0] (.d (.it .i64 (doR bad d a).2)) (Qp bad (doR bad d a).1) 1:=by
 have hp:=ha.p;have hq:=ha.q;have hbb:=ha.b;have hfe:∀m:Int,0<=m->imS (QS d) m=rdS (some d) m:=λm h0=>(QGJ d m h0).symm;have g8:=QGX h a.p om 1 1 true;have g9:=QGX h a.p om 1 1 false;have g10:=QGX h a.p om 2 3 true;have g11:=QDb bad d ⟨by have:=h.b.nx;omega,by have:=h.b.nx;omega⟩ h.bl (by have:=h.b.l;omega) ⟨by have:=h.ep;omega,by have:=h.ep;omega⟩;rw[show(if true=true then [(1:Int),2]else [1])=[1,2]from rfl]at g8;rw[show(if false=true then [(1:Int),2]else [1])=[1]from rfl]at g9;rw[show(if true=true then [(3:Int),2]else [3])=[3,2]from rfl]at g10;have e11:(barP bad d).2=(if d.nx∈bad then 3 else 0)/\(barP bad d).1=(if d.nx∈bad then tk d else YX d):=by
  unfold barP;split
  ·exact ⟨rfl,rfl⟩
  ·exact ⟨rfl,rfl⟩
 rw[<-e11.1,<-e11.2]at g11;obtain⟨R,hR⟩:∃R,runP bad d (QAJ (rdS (some d)) a)=R:=⟨_,rfl⟩;unfold doR;rw[hR];generalize synP bad d a.p 1 [1,2]=R8 at*
 generalize synP bad d a.p 1 [1]=R9 at*
 generalize synP bad d a.p 2 [3,2]=R10 at*
 generalize barP bad d=R11 at*
 obtain⟨k,p,q,n,bb,ba⟩:=a;dsimp only at*
 show FnH _ _ [.ptr 0 0,.dg 6 [.it .i64 k,.st p,.st q,.it .i64 n,.fs 1 (QD bb),.fs 1 (vI ba)]] _ _ _ _ _ _;by_cases c8:k=8
 ·subst c8;rw[if_pos rfl];refine QL i24 λT=>?_;(repeat' (conv=>whnf);first|refine CallI.h g8 [0] ?_|refine gOI ?_|intro x hx hu|intro h|apply sS);all_goals try omega
  exact QH
 rw[if_neg c8];by_cases c9:k=9
 ·subst c9;rw[if_pos rfl];refine QL i24 λT=>?_;(repeat' (conv=>whnf);first|refine CallI.h g9 [0] ?_|refine gOI ?_|intro x hx hu|intro h|apply sS);all_goals try omega
  exact QH
 rw[if_neg c9];by_cases c10:k=10
 ·subst c10;rw[if_pos rfl];refine QL i24 λT=>?_;(repeat' (conv=>whnf);first|refine CallI.h g10 [0] ?_|refine gOI ?_|intro x hx hu|intro h|apply sS);all_goals try omega
  exact QH
 rw[if_neg c10];by_cases c11:k=11
 ·subst c11;rw[if_pos rfl];refine QL i24 λT=>?_;(repeat' (conv=>whnf);first|refine CallI.h g11 [0] ?_|refine gOI ?_|intro x hx hu|intro h|apply sS);all_goals try omega
  exact QH
 rw[if_neg c11];by_cases c0:k=0
 ·subst c0;have hact:QAJ (rdS (some d)) ⟨0,p,q,n,bb,ba⟩=mkP (rdS (some d)) p 1:=rfl;have g:=QH0 h p om 1;rw[QM6 hfe p 1,<-hact,hR]at g;refine QL i24 λT=>?_;(repeat' (conv=>whnf);first|refine CallI.h g [0] ?_|refine gOI ?_|intro x hx hu|intro h|apply sS);all_goals try omega
  exact QH
 by_cases c1:k=1
 ·subst c1;have hact:QAJ (rdS (some d)) ⟨1,p,q,n,bb,ba⟩=mkP (rdS (some d)) p 2:=rfl;have g:=QH0 h p om 2;rw[QM6 hfe p 2,<-hact,hR]at g;refine QL i24 λT=>?_;(repeat' (conv=>whnf);first|refine CallI.h g [0] ?_|refine gOI ?_|intro x hx hu|intro h|apply sS);all_goals try omega
  exact QH
 by_cases c2:k=2
 ·subst c2;have hact:QAJ (rdS (some d)) ⟨2,p,q,n,bb,ba⟩=QA0 (rdS (some d)) p n bb:=rfl;have g:=QKq h p om n bb om;rw[QPM hfe p n bb,<-hact,hR]at g;refine QL i24 λT=>?_;(repeat' (conv=>whnf);first|refine CallI.h g [0] ?_|refine gOI ?_|intro x hx hu|intro h|apply sS);all_goals try omega
  exact QH
 by_cases c3:k=3
 ·subst c3;have hact:QAJ (rdS (some d)) ⟨3,p,q,n,bb,ba⟩=QBH (rdS (some d)) p bb:=rfl;have g:=QP8 h p om bb om;rw[QPN hfe p bb,<-hact,hR]at g;refine QL i24 λT=>?_;(repeat' (conv=>whnf);first|refine CallI.h g [0] ?_|refine gOI ?_|intro x hx hu|intro h|apply sS);all_goals try omega
  exact QH
 by_cases c4:k=4
 ·subst c4;have hact:QAJ (rdS (some d)) ⟨4,p,q,n,bb,ba⟩=QBl (rdS (some d)) p n:=rfl;have g:=QP3 h p om n;rw[QPH hfe p n,<-hact,hR]at g;refine QL i24 λT=>?_;(repeat' (conv=>whnf);first|refine CallI.h g [0] ?_|refine gOI ?_|intro x hx hu|intro h|apply sS);all_goals try omega
  exact QH
 by_cases c5:k=5
 ·subst c5;have hact:QAJ (rdS (some d)) ⟨5,p,q,n,bb,ba⟩=QBm (rdS (some d)) p q:=rfl;have g:=QPb h om p q om om;rw[QPK hfe p q,<-hact,hR]at g;refine QL i24 λT=>?_;(repeat' (conv=>whnf);first|refine CallI.h g [0] ?_|refine gOI ?_|intro x hx hu|intro h|apply sS);all_goals try omega
  exact QH
 by_cases c6:k=6
 ·subst c6;have hact:QAJ (rdS (some d)) ⟨6,p,q,n,bb,ba⟩=QBn (rdS (some d)) p:=rfl;have g:=QP2 h p om;rw[QPJ hfe p,<-hact,hR]at g;refine QL i24 λT=>?_;(repeat' (conv=>whnf);first|refine CallI.h g [0] ?_|refine gOI ?_|intro x hx hu|intro h|apply sS);all_goals try omega
  exact QH
 have hact:QAJ (rdS (some d)) ⟨k,p,q,n,bb,ba⟩=(0,[]):=by unfold QAJ;rw[if_neg c0,if_neg c1,if_neg c2,if_neg c3,if_neg c4,if_neg c5,if_neg c6]
 rw[hact,Z8]at hR;replace hR:(d,(0:Int))=R:=hR;subst hR;refine QL i24 λT=>?_;(repeat' (conv=>whnf);first|refine gOI ?_|intro x hx hu|intro h|apply sS);all_goals try omega
 exact QH
theorem QRl(h:Fd bad d N)(a:Act)(ha:QEG a)(h7:a.k=7):
  FnH Tryz.prog 24 [.ptr 0 0,.dg 6 (ZV a)] (Qp bad d) 1 [0] (.d (.it .i64 0)) (Qp a.bad (z0f d)) 1:=by
 have hba:=ha.bad;have g:=QNk bad a.bad om d;obtain⟨k,p,q,n,bb,ba⟩:=a;dsimp only at*
 subst h7;replace g:FnH Tryz.prog 39 [.ptr 0 0,.d (.fs 1 (vI ba))] (Qp bad d) 1 [0] (.tup []) (Qp ba (z0f d)) 1:=g;show FnH _ _ [.ptr 0 0,.dg 6 [.it .i64 7,.st p,.st q,.it .i64 n,.fs 1 (QD bb),.fs 1 (vI ba)]] _ _ _ _ _ _;refine QL i24 λT=>?_;(repeat' (conv=>whnf);first|refine CallI.h g [0] ?_|refine gOI ?_|intro x hx hu|intro h|apply sS);all_goals try omega
 exact QH
def QKh(b:Bool)(bad:List Int)(d:Dk):List (Nat×Ob):=QH1 1 2 3 4 5 b bad d++[(6,.cells 1 [.ptr 1 0])]
def frR:Nat->Nat|1=>8|2=>10|3=>11|4=>9|5=>7|6=>20|j=>j
def frS(d:Dk)(T:Nat->Nat):S:=⟨[(2,.ptr 6 0)],QKh false [] d++Qr 0 [] T,7⟩
theorem QNb(image:List (List UInt8))(hm:XL image)(c4:QBk image):FnH Tryz.prog 9 [.d (Q9 image)] [] 0 [] (.ptr 6 0) (QKh false [] (dk0 image)) 7:=by
 have hn:image.length=65:=c4.1;have hF:FnH Tryz.prog 18 [.d (Q9 image)] [] 0 [] (.tup [.ptr 7 0,.d (.it .i64 0)]) (QH1 7 9 10 8 6 false [] (dk0 image)) 11:=QH2 image om;have f0:Fd [] (dk0 image) 0:=Fd.dk0 hm c4.1;have hi0:Y9 (some (dk0 image))=image:=QH3 (dk0 image);have hMt:=QEM (b:=false) f0 (by rw[hi0];exact c4);generalize dk0 image=d0 at*
 refine QL i9 λT=>?_;(repeat' (conv=>whnf);first|refine CallI.byH hF [] rfl ⟨rfl,by decide,by with_unfolding_all exact rfl⟩ trivial rfl rfl ?_|refine CallI.h hMt [8,10,11,9,7] ?_|refine gOI ?_|intro x hx hu|intro h|apply sS);all_goals try omega
 conv=>whnf
 refine⟨frS d0 T,Wk.ren frR ?_ ?_ rfl rfl,rfl,rr,rr⟩
 ·exact rr
 ·exact rr
def j2:Dk:=(runP [] k1 (QBH (rdS (some k1)) kA [120])).1
def j3:Dk:=(synP [] j2 kA 1 [1,2]).1
def j4:Dk:=(synP [] j3 [47] 2 [3,2]).1
theorem QVG:(runP [] k1 (QBH (rdS (some k1)) kA [120])).2=0:=by decide+kernel
theorem QVH:QEz j2 kA=(3,0):=by decide+kernel
theorem QVI:(synP [] j2 kA 1 [1,2]).2=0:=by decide+kernel
theorem QVJ:(synP [] j3 [47] 2 [3,2]).2=0:=by decide+kernel
theorem QVK:j4.wait=[]:=by decide+kernel
theorem QTj:(j4.safe[17]?).bind (λs=>s[16]?)=some 97/\(j4.safe[41]?).bind (λs=>s[0]?)=some 120:=by decide+kernel
theorem QVL:Yw (rdS (some j4)) [47] 1=(0,6):=by decide+kernel
theorem QLv(nx:Int)(sf:List (List UInt8))(lg:List (List D))(ep:Int)(h0:sf.length≠0):FnC Tryz.prog 16 [.d (Qg (some ⟨nx,sf,[],lg,ep⟩))] (.d (.fs 36 [])):=by
 have hn:FnC Tryz.prog 57 [.d (Qg (some ⟨nx,sf,[],lg,ep⟩))] (.d (.bl false)):=by
  have:=Ye (some ⟨nx,sf,[],lg,ep⟩);rw[show QA5 (some ⟨nx,sf,[],lg,ep⟩)=false from decide_eq_false h0]at this;exact this
 refine QJ i16 ?_;(repeat' (conv=>whnf);first|refine cEk hn ?_|refine cI i58 ?_|refine gOI ?_|intro x hx hu|intro h|apply sS);all_goals try omega
 all_goals first|rfl|skip
theorem QAK(e:Int):FnC Tryz.prog 17 [.d (.it .i64 e)] (.d (.it .i64 e)):=by
 refine QJ i17 ?_;(repeat' (conv=>whnf);first|refine QA ?_|intro x hx hu|intro h|apply sS);rfl
theorem QRm(d:Dk)(h:Xu (some d))(p:List UInt8)(hp:p.length<=100000)(kind:Int)(e:Int)(he:(Yw (rdS (some d)) p kind)=(0,e))(he0:e≠0):
  FnC Tryz.prog 56 [.d (.fp 1 [Qg (some d)]),.d (.st p),.d (.it .i64 kind)] (.tup [.d (.it .i64 0),.d (.it .i64 e)]):=by
 have hL:=Jb (some d) h p hp;have hI:=YG (some d) h (Qj (rdS (some d)) p).1;have hA:Yw (rdS (some d)) p kind=if(Qj (rdS (some d)) p).2≠0 then(0,(Qj (rdS (some d)) p).2)else if(Qu (rdS (some d)) (Qj (rdS (some d)) p).1).k≠kind then(0,6)else((Qj (rdS (some d)) p).1,0):=rfl
 rw[he]at hA;generalize Qu (rdS (some d)) (Qj (rdS (some d)) p).1=x at*
 generalize Qj (rdS (some d)) p=q at*
 obtain⟨n,e2⟩:=q;obtain⟨k,z,b0,b1,b2,b3⟩:=x;dsimp only at hA hI hL;replace hI:FnC Tryz.prog 111 [.d (Qg (some d)),.d (.it .i64 n)] (.dg 6 [.it .i64 k,.it .i64 z,.it .i64 b0,.it .i64 b1,.it .i64 b2,.it .i64 b3]):=hI;by_cases c1:e2=0
 ·subst c1;rw[if_neg (by decide)]at hA;by_cases c2:k=kind
  ·rw [if_neg (λh=>h c2)]at hA;exact absurd (jn hA).2 he0
  ·rw [if_pos c2]at hA;obtain rfl:=(jn hA).2;refine QJ i56 ?_;(repeat' (conv=>whnf);first|refine cEk hL ?_|refine cEk hI ?_|refine cI i11 ?_|refine cI i50 ?_|refine gOI ?_|intro x hx hu|intro h|apply sS);all_goals first|omega|rfl
 ·rw [if_pos c1]at hA;obtain rfl:=(jn hA).2;refine QJ i56 ?_;(repeat' (conv=>whnf);first|refine cEk hL ?_|refine cEk hI ?_|refine cI i11 ?_|refine cI i50 ?_|refine gOI ?_|intro x hx hu|intro h|apply sS);all_goals first|omega|rfl
theorem QLw(d:Dk)(h:Xu (some d))(p:List UInt8)(hp:p.length<=100000)(e:Int)(he:(Yw (rdS (some d)) p 1)=(0,e))(he0:e≠0):
  FnC Tryz.prog 14 [.d (.fp 1 [Qg (some d)]),.d (.st p)] (.d (.it .i64 e)):=by
 have hA:=QRm d h p hp 1 e he he0;refine QJ i14 ?_;(repeat' (conv=>whnf);first|refine cEk hA ?_|refine cI i55 ?_|refine cI QCJ ?_|refine gOI ?_|intro x hx hu|intro h|apply sS);all_goals first|omega|rfl
variable {o:Oper}
variable {l:List AV}
theorem QTk(h:CallI P N o σ 48 l K):CallI P N o σ 48 l K:=h
theorem QTl(h:CallI P N o σ 21 l K):CallI P N o σ 21 l K:=h
theorem QTm(h:CallI P N o σ 14 l K):CallI P N o σ 14 l K:=h
theorem QTn(h:CallI P N o σ 15 l K):CallI P N o σ 15 l K:=h
theorem QTo(h:CallI P N o σ 11 l K):CallI P N o σ 11 l K:=h
def kU(d:Dk)(sl:List (Nat×AV)):S:=⟨sl,QKh false [] d,7⟩
theorem QNc{L:List (List UInt8)}{m:Nat}{v:UInt8}(h:(L[n]?).bind (λs=>s[m]?)=some v):∃s,L[n]? =some s/\s[m]? =some v:=by
 cases hL:L[n]? with
 |none=>rw[hL]at h;cases h
 |some s=>rw[hL]at h;exact⟨s,rfl,h⟩
theorem QJQ:FnC Tryz.prog 8 [] (.d (.bl true)):=by
 have f0:Fd [] k0 0:=Fd.dk0 QMu rfl;have f1:Fd [] k1 5:=f0.runP (QNY ..) om;have f2:Fd [] j2 10:=f1.runP (QKg ..) om;have f3:Fd [] j3 11:=f2.synP kA 1 [1,2] (by decide) om;have f4:Fd [] j4 12:=f3.synP [47] 2 [3,2] (by decide) om;have hFr:FnH Tryz.prog 9 [.d (Q9 Js)] [] 0 [] (.ptr 6 0) (QKh false [] k0) 7:=QNb Js QMu dkk;have hC:FnH Tryz.prog 47 [.ptr 5 0,.d (.st kA)] (Qa false [] k0) 6 [0,5] (.d (.it .i64 0)) (Qa false [] k1) 6:=by
  have:=QFY (b:=false) f0 kA (by decide);rw[QVF]at this;exact this
 have hA:FnH Tryz.prog 48 [.ptr 5 0,.d (.st kA),.d (.fs 1 [[.it .u8 120]])] (Qa false [] k1) 6 [0,5] (.d (.it .i64 0)) (Qa false [] j2) 6:=by
  have:=QFX (b:=false) f1 kA (by decide) [120] (by decide);rw[QVG]at this;exact this
 have hW:FnH Tryz.prog 21 [.ptr 5 0,.d (.st kA)] (Qa false [] j2) 6 [0,5] (.tup [.d (.it .i64 3),.d (.it .i64 0)]) (Qa false [] j2) 6:=by
  have:=QHv (b:=false) f2 kA (by decide);rw[QVH]at this;exact this
 have hF:FnH Tryz.prog 14 [.ptr 5 0,.d (.st kA)] (Qa false [] j2) 6 [0,5] (.d (.it .i64 0)) (Qa false [] j3) 6:=by
  have:=QHt (b:=false) f2 kA (by decide);rw[QVI]at this;exact this
 have hS:FnH Tryz.prog 15 [.ptr 5 0,.d (.st [47])] (Qa false [] j3) 6 [0,5] (.d (.it .i64 0)) (Qa false [] j4) 6:=by
  have:=QKe (b:=false) f3 [47] (by decide);rw[QVJ]at this;exact this
 have hSf:FnC Tryz.prog 49 [.d (Qg (some j4))] (.d (.fs 32 (j4.safe.map QF))):=QGK (some j4) f4.ok;have hWn:FnC Tryz.prog 16 [.d (Qg (some j4))] (.d (.fs 36 [])):=by
  have h0:=f4.b.s0;have hw:=QVK;generalize j4=d at*
  obtain⟨nx,sf,wt,lg,ep⟩:=d;dsimp only at hw h0;subst hw;exact QLv nx sf lg ep h0
 have hFe:=QLw j4 f4.ok [47] (by decide) 6 QVL (by decide);obtain⟨s17,e17,v17⟩:=QNc QTj.1;obtain⟨s41,e41,v41⟩:=QNc QTj.2;obtain⟨g17,rfl⟩:=ZO (f4.s s17 (ya e17));obtain⟨g41,rfl⟩:=ZO (f4.s s41 (ya e41));have w17:g17 16=97:=by
  have:some (g17 16)=some (97:UInt8):=v17;exact za this
 have w41:g41 0=120:=by
  have:some (g41 0)=some (120:UInt8):=v41;exact za this
 have w17i:((g17 16).toNat:Int)=97:=by rw[w17];rfl
 have w41i:((g41 0).toNat:Int)=120:=by rw[w41];rfl
 have x17:(j4.safe.map QF)[17]? =some (QF (Qv g17)):=by rw[yv,e17];rfl
 have x41:(j4.safe.map QF)[41]? =some (QF (Qv g41)):=by rw[yv,e41];rfl
 have hlen:(j4.safe.map QF).length=65:=by rw[zb];exact f4.n
 have n0:=QAK 0;have n6:=QAK 6;have hE:=QMv;clear f0 f1 f2 f3 f4 e17 e41 v17 v41;generalize k0=d0 at*
 generalize k1=d1 at*
 generalize j2=d2 at*
 generalize j3=d3 at*
 generalize hL:j4.safe.map QF=L at*
 generalize j4=d4 at*
 generalize Q9 Js=E at*
 refine QJ i8 ?_;(repeat' (conv=>whnf);first|refine JD.vec ?_|refine OpX.conv QB rfl rfl wu wu wu (bll rfl) wu rfl wu rfl ?_|refine cEk hE ?_|refine cEk hSf ?_|refine cXk hWn ?_|refine cXk hFe ?_|refine cXk n0 ?_|refine cXk n6 ?_|refine Yk x17 ?_|refine Yk x41 ?_|refine CallI.byH hFr [] rfl ⟨rfl,by decide,by with_unfolding_all exact rfl⟩ trivial rfl rfl ?_|refine CallI.h hC [1,2,3,4,5,6] ?_|((with_reducible refine QTk ?_);refine CallI.wk (τ:=kU d1 [(1,.ptr 6 0),(14,.d (.it .i64 0)),(15,.ptr 6 0),(17,.d (.fs 1 [[.it .u8 120]]))]) Wk.e ⟨_,_,_,_,_,_,rfl,rfl,rfl,rfl⟩ ?_;refine CallI.h hA [1,2,3,4,5,6] ?_)|((with_reducible refine QTl ?_);refine CallI.wk (τ:=kU d2 [(1,.ptr 6 0),(2,.d (.it .i64 0)),(3,.d (.it .i64 0)),(20,.ptr 6 0)]) Wk.e ⟨_,_,_,_,_,_,rfl,rfl,rfl,rfl⟩ ?_;refine CallI.h hW [1,2,3,4,5,6] ?_)|((with_reducible refine QTm ?_);refine CallI.wk (τ:=kU d2 [(1,.ptr 6 0),(2,.d (.it .i64 0)),(3,.d (.it .i64 0)),(4,.d (.it .i64 3)),(5,.d (.it .i64 0)),(24,.ptr 6 0)]) Wk.e ⟨_,_,_,_,_,_,rfl,rfl,rfl,rfl⟩ ?_;refine CallI.h hF [1,2,3,4,5,6] ?_)|((with_reducible refine QTn ?_);refine CallI.wk (τ:=kU d3 [(1,.ptr 6 0),(2,.d (.it .i64 0)),(3,.d (.it .i64 0)),(4,.d (.it .i64 3)),(5,.d (.it .i64 0)),(25,.d (.it .i64 0)),(26,.ptr 6 0)]) Wk.e ⟨_,_,_,_,_,_,rfl,rfl,rfl,rfl⟩ ?_;refine CallI.h hS [1,2,3,4,5,6] ?_)|((with_reducible refine QTo ?_);refine CallI.wk (τ:=⟨[(28,.d (.fp 1 [Qg (some d4)])),(1,.d (.fp 1 [Qg (some d4)])),(2,.d (.it .i64 0)),(3,.d (.it .i64 0)),(4,.d (.it .i64 3)),(5,.d (.it .i64 0)),(6,.d (.it .i64 0)),(7,.d (.it .i64 0))],[],13⟩) (Wk.frA [28,1] (u:= .ptr 6 0) (x:= .fp 1 [Qg (some d4)]) [(2,.d (.it .i64 0)),(3,.d (.it .i64 0)),(4,.d (.it .i64 3)),(5,.d (.it .i64 0)),(6,.d (.it .i64 0)),(7,.d (.it .i64 0))] 13 rr (frG wu wu wu) rr rfl) ⟨_,_,_,_,_,_,rfl,rfl,rfl,rfl⟩ ?_;refine cI i11 ?_)|refine cI i11 ?_|refine cI i50 ?_|refine gOI ?_|intro x hx hu|intro h|apply sS);all_goals first|exact ZW (by decide)|omega|(exfalso;rename_i h;exact h w17i)|(exfalso;rename_i h;exact h w41i)
theorem QPp(ws:List Wr)(hw:∀w∈ws,w.s.length=32)(hl:ws.length<=100000):FnC Tryz.prog 28 [.d (.fs 36 (ws.map QR)),.d (.fs 36 (ws.map QR))] (.d (.bl true)):=by
 have hv:(ws.map QR).length=ws.length:=zb ..;refine QJ i28 ?_;(repeat' (conv=>whnf);first|refine QA ?_|intro x hx hu|intro h|apply sS);conv=>whnf
 refine QT QB (λk:Nat=>k<=ws.length) (λk=>⟨[(0,.d (.fs 36 (ws.map QR))),(1,.d (.fs 36 (ws.map QR))),(5,.d (.it .i64 (k:Nat)))],[],0⟩) (λk=>ws.length-k) 0 (z7 _) ⟨rr,trivial,rfl⟩ ?_;intro k hk;by_cases hkl:k<ws.length
 ·obtain ⟨x,hx⟩:=Qo hkl;have hxs:=hw x (ya hx);have hxe:(ws.map QR)[k]? =some (QR x):=by rw[yv,hx];rfl
  obtain⟨xa,xs,xt,xi,xe⟩:=x;obtain⟨g,rfl⟩:=ZO hxs;(repeat' (conv=>whnf);first|((with_reducible refine QGL ?_);refine Spl.no (QRR (QDW _ rfl)) ?_)|with_reducible refine AtA.mk' ?_|refine Yk hxe ?_|refine QA ?_|intro x hx hu|intro h|apply sS);refine again (k+1) hkl (by first|omega|(dsimp only;omega)) (ai rfl (ai rfl (ai (QK om) trivial))) trivial rfl
 ·(repeat' (conv=>whnf);first|refine QA ?_|intro x hx hu|intro h|apply sS);rfl
theorem QJR(h:NoF F)(p:List UInt8)(kind:Int):FnC Tryz.prog 56 [.d F,.d (.st p),.d (.it .i64 kind)] (.tup [.d (.it .i64 0),.d (.it .i64 1)]):=by
 have hd:=QEH h;refine QJ i56 ?_;(repeat' (conv=>whnf);first|refine cEk hd ?_|refine gOI ?_|intro x hx hu|intro h|apply sS);rfl
theorem QPq(h:NoF F)(p:List UInt8):FnC Tryz.prog 14 [.d F,.d (.st p)] (.d (.it .i64 1)):=by
 have hA:=QJR h p 1;refine QJ i14 ?_;(repeat' (conv=>whnf);first|refine cEk hA ?_|refine cI i55 ?_|refine cI QCJ ?_|refine gOI ?_|intro x hx hu|intro h|apply sS);rfl
theorem QPr(h:NoF F)(p:List UInt8):FnC Tryz.prog 22 [.d F,.d (.st p)] (.d (.it .i64 1)):=by
 have hA:=QJR h p 1;refine QJ i22 ?_;(repeat' (conv=>whnf);first|refine cEk hA ?_|refine cI i55 ?_|refine cI QCJ ?_|refine gOI ?_|intro x hx hu|intro h|apply sS);rfl
theorem QPs(h:NoF F)(p:List UInt8):FnC Tryz.prog 15 [.d F,.d (.st p)] (.d (.it .i64 1)):=by
 have hA:=QJR h p 2;refine QJ i15 ?_;(repeat' (conv=>whnf);first|refine cEk hA ?_|refine cI i55 ?_|refine cI QCJ ?_|refine gOI ?_|intro x hx hu|intro h|apply sS);rfl
theorem QPt(h:NoF F):FnC Tryz.prog 23 [.d F] (.d (.it .i64 1)):=by
 have hd:=QEH h;have hn:FnC Tryz.prog 57 [.d (.ot (.pointer none))] (.d (.bl true)):=Ye none;have hb:FnC Tryz.prog 62 [.d (.ot (.pointer none))] (.d (.it .i64 1)):=by
  refine QJ i62 ?_;(repeat' (conv=>whnf);first|refine cEk hn ?_|refine gOI ?_|intro x hx hu|intro h|apply sS);rfl
 refine QJ i23 ?_;(repeat' (conv=>whnf);first|refine cEk hd ?_|refine cEk hb ?_|refine gOI ?_|intro x hx hu|intro h|apply sS);rfl
theorem QPu(h:NoF F)(p:List UInt8):FnC Tryz.prog 21 [.d F,.d (.st p)] (.tup [.d (.it .i64 0),.d (.it .i64 1)]):=by
 have hd:=QEH h;refine QJ i21 ?_;(repeat' (conv=>whnf);first|refine cEk hd ?_|refine gOI ?_|intro x hx hu|intro h|apply sS);rfl
def rOb(bad:List Int)(d:Dk):Ob:= .cells 6 [.d (.fs 32 (d.safe.map QF)),.d (.fs 36 (d.wait.map QR)),.d (.it .i64 d.ep),.d (.fs 38 d.log),.d (.fs 1 (vI bad)),.d (.it .i64 d.nx)]
theorem QNd(e:Int):(e !=e)=false:=by simp
noncomputable def Xx:List Oper:=Qw 4 4 (Qw 4 4 (Qw 4 4 (Qw 0 0 (Qw 0 0 (Qw 0 0 (QQk 13 (Go.Sy.bd Tryz.f4)))))))
noncomputable def QRn:List Oper:=QQk 13 (Go.Sy.bd Tryz.f4)
def prS(sl:List (Nat×AV))(m:List (Nat×Ob))(r:Ob):S:=⟨sl,m++[(6,r)],7⟩
variable {acts:List Act}
variable {k:Int}
variable {p q bb:List UInt8}
theorem QVM{e:Int}{n:Int}(hx:acts[i]? =some ⟨k,p,q,n,bb,ba⟩)
  (hDo:FnH Tryz.prog 10 [.ptr 5 0,.dg 6 [.it .i64 k,.st p,.st q,.it .i64 n,.fs 1 (QD bb),.fs 1 (vI ba)]] (Qa b bad d) 6 [0,5] (.d (.it .i64 e)) (Qa b' bad' d') 6) (hRf:FnH Tryz.prog 24 [.ptr 0 0,.dg 6 [.it .i64 k,.st p,.st q,.it .i64 n,.fs 1 (QD bb),.fs 1 (vI ba)]] (Qp bad d) 1 [0] (.d (.it .i64 e)) (Qp bad' d') 1)
  (hK:∀σ,Wk 141 σ (prS [(1,.d (.fs 6 (acts.map ZV))),(5,.ptr 0 0),(7,.ptr 6 0),(9,.ptr 5 0),(14,.d (.it .i64 (i:Nat))),(94,.d (.bl false))] (Qa b' bad' d') (rOb bad' d'))->K σ):QI Tryz.prog ti 141 Xx [] (prS [(1,.d (.fs 6 (acts.map ZV))),(5,.ptr 0 0),(7,.ptr 6 0),(9,.ptr 5 0),(14,.d (.it .i64 (i:Nat))),(81,.d (.fs 6 (acts.map ZV))),(82,.d (.it .i64 (i:Nat))),(80,.ptr 5 0),(87,.ptr 6 0),(88,.d (.fs 6 (acts.map ZV))),(89,.d (.it .i64 (i:Nat)))] (Qa b bad d) (rOb bad d)) K:=by
 have hn:=QAK e;have h01234567:QI Tryz.prog ti 141 Xx [0,1,2,3,4,5,6,7] (prS [(1,.d (.fs 6 (acts.map ZV))),(5,.ptr 0 0),(7,.ptr 6 0),(9,.ptr 5 0),(14,.d (.it .i64 (i:Nat))),(86,.d (.it .i64 e)),(93,.d (.it .i64 e))] (Qa b' bad' d') (rOb bad' d')) K:=by
  refine QI.fin QB (.cons 8 .nil .nil) dkk ?_;refine Br.mk ?_ trivial;unfold prS;(repeat' (conv=>whnf);first|with_reducible refine Spl.no (QNd e) ?_|refine QA ?_|intro x hx hu|intro h|apply sS);conv=>whnf
  exact hK _ (Wk.en (⟨ai rfl (ai rfl (ai rfl (ai rfl (ai rfl (ai (QNF (QNd e)) trivial))))),rr,rfl⟩))
 have h0123456:QI Tryz.prog ti 141 Xx [0,1,2,3,4,5,6] (prS [(1,.d (.fs 6 (acts.map ZV))),(5,.ptr 0 0),(7,.ptr 6 0),(9,.ptr 5 0),(14,.d (.it .i64 (i:Nat))),(86,.d (.it .i64 e)),(92,.d (.it .i64 e))] (Qa b' bad' d') (rOb bad' d')) K:=by
  refine QI.alt QB [7] dkk ?_;unfold prS;refine Br.mk ?_ trivial
  ·(repeat' (conv=>whnf);first|refine cEk hn ?_|refine gOI ?_|intro x hx hu|intro h|apply sS);exact dwk h01234567 Wk.e
 have h012345:QI Tryz.prog ti 141 Xx [0,1,2,3,4,5] (prS [(1,.d (.fs 6 (acts.map ZV))),(5,.ptr 0 0),(7,.ptr 6 0),(9,.ptr 5 0),(14,.d (.it .i64 (i:Nat))),(87,.ptr 6 0),(86,.d (.it .i64 e)),(91,.dg 6 [.it .i64 k,.st p,.st q,.it .i64 n,.fs 1 (QD bb),.fs 1 (vI ba)])] (Qa b' bad' d') (rOb bad d)) K:=by
  refine QI.alt QB [6] dkk ?_;unfold prS;refine Br.mk ?_ trivial
  ·(repeat' (conv=>whnf);first|refine CallI.h hRf [6] ?_|refine QA ?_|intro x hx hu|intro h|apply sS);exact dwk h0123456 Wk.e
 have h01234:QI Tryz.prog ti 141 Xx [0,1,2,3,4] (prS [(1,.d (.fs 6 (acts.map ZV))),(5,.ptr 0 0),(7,.ptr 6 0),(9,.ptr 5 0),(14,.d (.it .i64 (i:Nat))),(87,.ptr 6 0),(86,.d (.it .i64 e)),(90,.d (.fp 6 [.it .i64 k,.st p,.st q,.it .i64 n,.fs 1 (QD bb),.fs 1 (vI ba)]))] (Qa b' bad' d') (rOb bad d)) K:=by
  refine QI.alt QB [5] dkk ?_;unfold prS;refine Br.mk ?_ trivial
  ·(repeat' (conv=>whnf);first|with_reducible refine Qk hx ?_|with_reducible refine AtA.mk' ?_|refine QA ?_|intro x hx hu|intro h|apply sS);exact dwk h012345 Wk.e
 have h0123:QI Tryz.prog ti 141 Xx [0,1,2,3] (prS [(1,.d (.fs 6 (acts.map ZV))),(5,.ptr 0 0),(7,.ptr 6 0),(9,.ptr 5 0),(14,.d (.it .i64 (i:Nat))),(87,.ptr 6 0),(88,.d (.fs 6 (acts.map ZV))),(89,.d (.it .i64 (i:Nat))),(86,.d (.it .i64 e))] (Qa b' bad' d') (rOb bad d)) K:=by
  refine QI.alt QB [4] dkk ?_;unfold prS;refine Br.mk ?_ trivial
  ·(repeat' (conv=>whnf);first|with_reducible refine Qk hx ?_|with_reducible refine AtA.mk' ?_|refine QA ?_|intro x hx hu|intro h|apply sS);exact dwk h01234 Wk.e
 have h01245:QI Tryz.prog ti 141 Xx [0,1,2,4,5] (prS [(1,.d (.fs 6 (acts.map ZV))),(5,.ptr 0 0),(7,.ptr 6 0),(9,.ptr 5 0),(14,.d (.it .i64 (i:Nat))),(87,.ptr 6 0),(85,.d (.it .i64 e)),(91,.dg 6 [.it .i64 k,.st p,.st q,.it .i64 n,.fs 1 (QD bb),.fs 1 (vI ba)])] (Qa b' bad' d') (rOb bad d)) K:=by
  refine QI.alt QB [3] dkk ?_;unfold prS;refine Br.mk ?_ trivial
  ·(repeat' (conv=>whnf);first|refine cEk hn ?_|refine gOI ?_|intro x hx hu|intro h|apply sS);exact dwk h012345 Wk.e
 have h0124:QI Tryz.prog ti 141 Xx [0,1,2,4] (prS [(1,.d (.fs 6 (acts.map ZV))),(5,.ptr 0 0),(7,.ptr 6 0),(9,.ptr 5 0),(14,.d (.it .i64 (i:Nat))),(87,.ptr 6 0),(85,.d (.it .i64 e)),(90,.d (.fp 6 [.it .i64 k,.st p,.st q,.it .i64 n,.fs 1 (QD bb),.fs 1 (vI ba)]))] (Qa b' bad' d') (rOb bad d)) K:=by
  refine QI.alt QB [3,5] dkk ?_;unfold prS;refine Br.mk ?_ (Br.mk ?_ trivial)
  ·(repeat' (conv=>whnf);first|refine cEk hn ?_|refine gOI ?_|intro x hx hu|intro h|apply sS);exact dwk h01234 Wk.e
  ·(repeat' (conv=>whnf);first|with_reducible refine Qk hx ?_|with_reducible refine AtA.mk' ?_|refine QA ?_|intro x hx hu|intro h|apply sS);exact dwk h01245 Wk.e
 have h012:QI Tryz.prog ti 141 Xx [0,1,2] (prS [(1,.d (.fs 6 (acts.map ZV))),(5,.ptr 0 0),(7,.ptr 6 0),(9,.ptr 5 0),(14,.d (.it .i64 (i:Nat))),(87,.ptr 6 0),(88,.d (.fs 6 (acts.map ZV))),(89,.d (.it .i64 (i:Nat))),(85,.d (.it .i64 e))] (Qa b' bad' d') (rOb bad d)) K:=by
  refine QI.alt QB [3,4] dkk ?_;unfold prS;refine Br.mk ?_ (Br.mk ?_ trivial)
  ·(repeat' (conv=>whnf);first|refine cEk hn ?_|refine gOI ?_|intro x hx hu|intro h|apply sS);exact dwk h0123 Wk.e
  ·(repeat' (conv=>whnf);first|with_reducible refine Qk hx ?_|with_reducible refine AtA.mk' ?_|refine QA ?_|intro x hx hu|intro h|apply sS);exact dwk h0124 Wk.e
 have h0145:QI Tryz.prog ti 141 Xx [0,1,4,5] (prS [(1,.d (.fs 6 (acts.map ZV))),(5,.ptr 0 0),(7,.ptr 6 0),(9,.ptr 5 0),(14,.d (.it .i64 (i:Nat))),(80,.ptr 5 0),(87,.ptr 6 0),(84,.dg 6 [.it .i64 k,.st p,.st q,.it .i64 n,.fs 1 (QD bb),.fs 1 (vI ba)]),(91,.dg 6 [.it .i64 k,.st p,.st q,.it .i64 n,.fs 1 (QD bb),.fs 1 (vI ba)])] (Qa b bad d) (rOb bad d)) K:=by
  refine QI.alt QB [2] dkk ?_;unfold prS;refine Br.mk ?_ trivial
  ·(repeat' (conv=>whnf);first|refine CallI.h hDo [0,1,2,3,4,5] ?_|refine QA ?_|intro x hx hu|intro h|apply sS);exact dwk h01245 Wk.e
 have h014:QI Tryz.prog ti 141 Xx [0,1,4] (prS [(1,.d (.fs 6 (acts.map ZV))),(5,.ptr 0 0),(7,.ptr 6 0),(9,.ptr 5 0),(14,.d (.it .i64 (i:Nat))),(80,.ptr 5 0),(87,.ptr 6 0),(84,.dg 6 [.it .i64 k,.st p,.st q,.it .i64 n,.fs 1 (QD bb),.fs 1 (vI ba)]),(90,.d (.fp 6 [.it .i64 k,.st p,.st q,.it .i64 n,.fs 1 (QD bb),.fs 1 (vI ba)]))] (Qa b bad d) (rOb bad d)) K:=by
  refine QI.alt QB [2,5] dkk ?_;unfold prS;refine Br.mk ?_ (Br.mk ?_ trivial)
  ·(repeat' (conv=>whnf);first|refine CallI.h hDo [0,1,2,3,4,5] ?_|refine QA ?_|intro x hx hu|intro h|apply sS);exact dwk h0124 Wk.e
  ·(repeat' (conv=>whnf);first|with_reducible refine Qk hx ?_|with_reducible refine AtA.mk' ?_|refine QA ?_|intro x hx hu|intro h|apply sS);exact dwk h0145 Wk.e
 have h01:QI Tryz.prog ti 141 Xx [0,1] (prS [(1,.d (.fs 6 (acts.map ZV))),(5,.ptr 0 0),(7,.ptr 6 0),(9,.ptr 5 0),(14,.d (.it .i64 (i:Nat))),(80,.ptr 5 0),(87,.ptr 6 0),(88,.d (.fs 6 (acts.map ZV))),(89,.d (.it .i64 (i:Nat))),(84,.dg 6 [.it .i64 k,.st p,.st q,.it .i64 n,.fs 1 (QD bb),.fs 1 (vI ba)])] (Qa b bad d) (rOb bad d)) K:=by
  refine QI.alt QB [2,4] dkk ?_;unfold prS;refine Br.mk ?_ (Br.mk ?_ trivial)
  ·(repeat' (conv=>whnf);first|refine CallI.h hDo [0,1,2,3,4,5] ?_|refine QA ?_|intro x hx hu|intro h|apply sS);exact dwk h012 Wk.e
  ·(repeat' (conv=>whnf);first|with_reducible refine Qk hx ?_|with_reducible refine AtA.mk' ?_|refine QA ?_|intro x hx hu|intro h|apply sS);exact dwk h014 Wk.e
 have h045:QI Tryz.prog ti 141 Xx [0,4,5] (prS [(1,.d (.fs 6 (acts.map ZV))),(5,.ptr 0 0),(7,.ptr 6 0),(9,.ptr 5 0),(14,.d (.it .i64 (i:Nat))),(80,.ptr 5 0),(87,.ptr 6 0),(83,.d (.fp 6 [.it .i64 k,.st p,.st q,.it .i64 n,.fs 1 (QD bb),.fs 1 (vI ba)])),(91,.dg 6 [.it .i64 k,.st p,.st q,.it .i64 n,.fs 1 (QD bb),.fs 1 (vI ba)])] (Qa b bad d) (rOb bad d)) K:=by
  refine QI.alt QB [1] dkk ?_;unfold prS;refine Br.mk ?_ trivial
  ·(repeat' (conv=>whnf);first|with_reducible refine Qk hx ?_|with_reducible refine AtA.mk' ?_|refine QA ?_|intro x hx hu|intro h|apply sS);exact dwk h0145 Wk.e
 have h04:QI Tryz.prog ti 141 Xx [0,4] (prS [(1,.d (.fs 6 (acts.map ZV))),(5,.ptr 0 0),(7,.ptr 6 0),(9,.ptr 5 0),(14,.d (.it .i64 (i:Nat))),(80,.ptr 5 0),(87,.ptr 6 0),(83,.d (.fp 6 [.it .i64 k,.st p,.st q,.it .i64 n,.fs 1 (QD bb),.fs 1 (vI ba)])),(90,.d (.fp 6 [.it .i64 k,.st p,.st q,.it .i64 n,.fs 1 (QD bb),.fs 1 (vI ba)]))] (Qa b bad d) (rOb bad d)) K:=by
  refine QI.alt QB [1,5] dkk ?_;unfold prS;refine Br.mk ?_ (Br.mk ?_ trivial)
  ·(repeat' (conv=>whnf);first|with_reducible refine Qk hx ?_|with_reducible refine AtA.mk' ?_|refine QA ?_|intro x hx hu|intro h|apply sS);exact dwk h014 Wk.e
  ·(repeat' (conv=>whnf);first|with_reducible refine Qk hx ?_|with_reducible refine AtA.mk' ?_|refine QA ?_|intro x hx hu|intro h|apply sS);exact dwk h045 Wk.e
 have h0:QI Tryz.prog ti 141 Xx [0] (prS [(1,.d (.fs 6 (acts.map ZV))),(5,.ptr 0 0),(7,.ptr 6 0),(9,.ptr 5 0),(14,.d (.it .i64 (i:Nat))),(80,.ptr 5 0),(87,.ptr 6 0),(88,.d (.fs 6 (acts.map ZV))),(89,.d (.it .i64 (i:Nat))),(83,.d (.fp 6 [.it .i64 k,.st p,.st q,.it .i64 n,.fs 1 (QD bb),.fs 1 (vI ba)]))] (Qa b bad d) (rOb bad d)) K:=by
  refine QI.alt QB [1,4] dkk ?_;unfold prS;refine Br.mk ?_ (Br.mk ?_ trivial)
  ·(repeat' (conv=>whnf);first|with_reducible refine Qk hx ?_|with_reducible refine AtA.mk' ?_|refine QA ?_|intro x hx hu|intro h|apply sS);exact dwk h01 Wk.e
  ·(repeat' (conv=>whnf);first|with_reducible refine Qk hx ?_|with_reducible refine AtA.mk' ?_|refine QA ?_|intro x hx hu|intro h|apply sS);exact dwk h04 Wk.e
 have h45:QI Tryz.prog ti 141 Xx [4,5] (prS [(1,.d (.fs 6 (acts.map ZV))),(5,.ptr 0 0),(7,.ptr 6 0),(9,.ptr 5 0),(14,.d (.it .i64 (i:Nat))),(81,.d (.fs 6 (acts.map ZV))),(82,.d (.it .i64 (i:Nat))),(80,.ptr 5 0),(87,.ptr 6 0),(91,.dg 6 [.it .i64 k,.st p,.st q,.it .i64 n,.fs 1 (QD bb),.fs 1 (vI ba)])] (Qa b bad d) (rOb bad d)) K:=by
  refine QI.alt QB [0] dkk ?_;unfold prS;refine Br.mk ?_ trivial
  ·(repeat' (conv=>whnf);first|with_reducible refine Qk hx ?_|with_reducible refine AtA.mk' ?_|refine QA ?_|intro x hx hu|intro h|apply sS);exact dwk h045 Wk.e
 have h4:QI Tryz.prog ti 141 Xx [4] (prS [(1,.d (.fs 6 (acts.map ZV))),(5,.ptr 0 0),(7,.ptr 6 0),(9,.ptr 5 0),(14,.d (.it .i64 (i:Nat))),(81,.d (.fs 6 (acts.map ZV))),(82,.d (.it .i64 (i:Nat))),(80,.ptr 5 0),(87,.ptr 6 0),(90,.d (.fp 6 [.it .i64 k,.st p,.st q,.it .i64 n,.fs 1 (QD bb),.fs 1 (vI ba)]))] (Qa b bad d) (rOb bad d)) K:=by
  refine QI.alt QB [0,5] dkk ?_;unfold prS;refine Br.mk ?_ (Br.mk ?_ trivial)
  ·(repeat' (conv=>whnf);first|with_reducible refine Qk hx ?_|with_reducible refine AtA.mk' ?_|refine QA ?_|intro x hx hu|intro h|apply sS);exact dwk h04 Wk.e
  ·(repeat' (conv=>whnf);first|with_reducible refine Qk hx ?_|with_reducible refine AtA.mk' ?_|refine QA ?_|intro x hx hu|intro h|apply sS);exact dwk h45 Wk.e
 have h:QI Tryz.prog ti 141 Xx [] (prS [(1,.d (.fs 6 (acts.map ZV))),(5,.ptr 0 0),(7,.ptr 6 0),(9,.ptr 5 0),(14,.d (.it .i64 (i:Nat))),(81,.d (.fs 6 (acts.map ZV))),(82,.d (.it .i64 (i:Nat))),(80,.ptr 5 0),(87,.ptr 6 0),(88,.d (.fs 6 (acts.map ZV))),(89,.d (.it .i64 (i:Nat)))] (Qa b bad d) (rOb bad d)) K:=by
  refine QI.alt QB [0,4] dkk ?_;unfold prS;refine Br.mk ?_ (Br.mk ?_ trivial)
  ·(repeat' (conv=>whnf);first|with_reducible refine Qk hx ?_|with_reducible refine AtA.mk' ?_|refine QA ?_|intro x hx hu|intro h|apply sS);exact dwk h0 Wk.e
  ·(repeat' (conv=>whnf);first|with_reducible refine Qk hx ?_|with_reducible refine AtA.mk' ?_|refine QA ?_|intro x hx hu|intro h|apply sS);exact dwk h4 Wk.e
 exact h
theorem QTp{e:Int}{n:Int}(hx:acts[i]? =some ⟨k,p,q,n,bb,ba⟩)
  (hDo:FnH Tryz.prog 10 [.ptr 5 0,.dg 6 [.it .i64 k,.st p,.st q,.it .i64 n,.fs 1 (QD bb),.fs 1 (vI ba)]] (Qa b bad d) 6 [0,5] (.d (.it .i64 e)) (Qa b' bad' d') 6) (hRf:FnH Tryz.prog 24 [.ptr 0 0,.dg 6 [.it .i64 k,.st p,.st q,.it .i64 n,.fs 1 (QD bb),.fs 1 (vI ba)]] (Qp bad d) 1 [0] (.d (.it .i64 e)) (Qp bad' d') 1)
  (hK:K (prS [(1,.d (.fs 6 (acts.map ZV))),(5,.ptr 0 0),(7,.ptr 6 0),(9,.ptr 5 0),(14,.d (.it .i64 (i:Nat))),(94,.d (.bl false))] (Qa b' bad' d') (rOb bad' d'))):QX Tryz.prog ti 141 13 QRn (prS [(1,.d (.fs 6 (acts.map ZV))),(5,.ptr 0 0),(7,.ptr 6 0),(9,.ptr 5 0),(14,.d (.it .i64 (i:Nat)))] (Qa b bad d) (rOb bad d)) K:=by
 refine QX.mid (prS [(1,.d (.fs 6 (acts.map ZV))),(5,.ptr 0 0),(7,.ptr 6 0),(9,.ptr 5 0),(14,.d (.it .i64 (i:Nat))),(94,.d (.bl false))] (Qa b' bad' d') (rOb bad' d')) ?_ hK;refine QX.of_A mixed (ZG.hoistW QB 0 dkk ?_);conv=>whnf
 refine ZG.hoistW QB 0 dkk ?_;conv=>whnf
 refine ZG.hoistW QB 0 dkk ?_;conv=>whnf
 refine ZG.hoistW QB 4 dkk ?_;conv=>whnf
 refine ZG.hoistW QB 4 dkk ?_;conv=>whnf
 refine ZG.hoistW QB 4 dkk ?_;conv=>whnf
 exact .of_D (dwk (QVM hx hDo hRf (λσ h=>h)) Wk.e)
theorem QNe(h:Fd bad d N)(hl:d.log=[]):FnH Tryz.prog 27 [.ptr 0 0] (Z4 b bad d) 5 [0] (.d (.fs 38 [])) (Z4 b bad d) 5:=by
 have hn:FnC Tryz.prog 57 [.d (Qg (some d))] (.d (.bl false)):=by
  have:=Ye (some d);rw[show QA5 (some d)=false from decide_eq_false h.b.s0]at this;exact this
 obtain⟨nx,sf,wt,lg,ep⟩:=d;dsimp only at hl;subst hl;refine QL i27 λT=>?_;(repeat' (conv=>whnf);first|with_reducible refine Q7.unroll QB 1 ?_|refine rFk hn ?_|refine cI i67 ?_|refine gOI ?_|intro x hx hu|intro h|apply sS);all_goals try omega
 all_goals (
  conv=>whnf
  first
  |exact⟨⟨[(2,.d (.fs 38 []))],Z4 b bad ⟨nx,sf,wt,[],ep⟩++Qr 5 [0] T,40⟩,Wk.vwL (ai (Vw.ts' rfl) trivial) (ai (VwO.same _) (ai (VwO.same _) (ai (VwO.same _) (ai (VwO.same _) (ai (VwO.same _) (ai (VwO.same _) (ai (VwO.same _) trivial))))))) rfl,rfl,rr,rr⟩
  |exact⟨⟨[(2,.d (.fs 38 []))],Z4 b bad ⟨nx,sf,wt,[],ep⟩++Qr 5 [0] T,40⟩,Wk.vwL (ai (Vw.eq rfl) trivial) (ai (VwO.same _) (ai (VwO.same _) (ai (VwO.same _) (ai (VwO.same _) (ai (VwO.same _) (ai (VwO.same _) (ai (VwO.same _) trivial))))))) rfl,rfl,rr,rr⟩)
def QJS(a:Act):Bool:=decide (a.p.length<=100/\a.q.length<=100/\a.b.length<=300/\a.bad.length<=30)
def QE0(l:List Act)(m:Int):Bool:=(l.take 100).all QJS&&decide ((l.length:Int)<=m)
theorem QNf(l:List Act)(m:Int):FnC Tryz.prog 7 [.d (.fs 6 (l.map ZV)),.d (.it .i64 m)] (.d (.bl (QE0 l m))):=by
 have hl:(l.map ZV).length=l.length:=zb ..;have hno:=fun(k:Nat) (a:Act) (hk:k<100) (hx:l[k]? =some a) (h:QJS a=false)=>show QE0 l m=false from by
  unfold QE0;rw[W3];left;rw[Wa];exact⟨a,ya (i:=k) (by rw[wb,if_pos hk];exact hx),by simp[h]⟩
 have hyes:=fun(k:Nat) (hk:k<=l.length) (h1:∀j:Nat,j<k->∀a,l[j]? =some a->QJS a=true) (h2:¬(k<l.length/\k<100))=>show QE0 l m=decide ((l.length:Int)<=m)from by
  unfold QE0;have:(l.take 100).all QJS=true:=by
   rw[ze];intro a ha;obtain⟨j,hj,rfl⟩:=v6 ha;rw[zy]at hj;exact h1 j om _ (by rw[xl,zj om])
  rw[this,wz]
 generalize QE0 l m=r at*
 refine QJ i7 ?_;(repeat' (conv=>whnf);first|refine QA ?_|intro x hx hu|intro h|apply sS);conv=>whnf
 refine QT QB (λk:Nat=>k<=l.length/\k<=100/\∀j:Nat,j<k->∀a,l[j]? =some a->QJS a=true) (λk=>⟨[(0,.d (.fs 6 (l.map ZV))),(1,.d (.it .i64 m)),(5,.d (.it .i64 (k:Nat)))],[],0⟩) (λk=>l.length-k) 0 ⟨z7 _,z7 _,λj hj=>by omega⟩ ⟨rr,trivial,rfl⟩ ?_;intro k hk0;have hk:=hk0.1;have hk1:=hk0.2.1;have hk2:=hk0.2.2;by_cases hkl:k<l.length/\k<100
 ·obtain ⟨a,hx⟩:=Qo hkl.1;have hn:=hno k a hkl.2 hx;have hb1:(QD a.b).length=a.b.length:=zb ..;have hb2:(vI a.bad).length=a.bad.length:=zb ..;have hkl1:=hkl.1;have hkl2:=hkl.2;by_cases hla:QJS a=true
  ·have h4:=of_decide_eq_true hla;obtain⟨q1,q2,q3,q4⟩:=h4;have hnx:∀j:Nat,j<k+1->∀a,l[j]? =some a->QJS a=true:=λj hj a' ha'=>by
    by_cases hjk:j=k
    ·rw [hjk,hx]at ha';obtain rfl:=za ha';exact hla
    ·exact hk2 j om a' ha'
   (repeat' (conv=>whnf);first|with_reducible refine Qk hx ?_|refine QA ?_|intro x hx hu|intro h|apply sS);all_goals try omega
   exact again (k+1) ⟨by omega,by omega,hnx⟩ (by first|omega|(dsimp only;omega)) (ai rfl (ai rfl (ai (QK om) trivial))) trivial rfl
  ·have h4:¬(a.p.length<=100/\a.q.length<=100/\a.b.length<=300/\a.bad.length<=30):=λh=>hla (decide_eq_true h);have hr:=hn (by simpa using hla);(repeat' (conv=>whnf);first|with_reducible refine Qk hx ?_|refine QA ?_|intro x hx hu|intro h|apply sS);all_goals first|omega|exact ZW hr.symm
 ·have hr:=hyes k hk hk2 hkl;(repeat' (conv=>whnf);first|refine QA ?_|intro x hx hu|intro h|apply sS);all_goals try omega
  all_goals exact ZW (by rw[hr,hl])
structure LSt where
 i:Nat
 b:Bool
 bad:List Int
 d:Dk
theorem QKi(h:Wk N σ τ):Wk N σ τ:=h
theorem QRo{l:List Act}(h:QE0 l 30=true):l.length<=30/\∀a∈l,QEG a:=by
 unfold QE0 at h;rw[zf,decide_eq_true_eq,ze]at h;refine⟨by omega,λa ha=>?_⟩;have:=of_decide_eq_true (h.1 a (by rw[z8 om];exact ha));exact⟨this.1,this.2.1,this.2.2.1,this.2.2.2⟩
theorem QNg{l:List (List D)}(h:QNA l):l=[]\/∃es:List Evt,es≠[]/\l=es.map YJ/\∀e∈es,e.w.s.length=32/\e.t.length<=1000:=by
 obtain⟨es,rfl,h2⟩:=h;cases es with
 |nil=>exact .inl rfl
 |cons e t=>exact .inr ⟨e::t,by simp,rfl,h2⟩
end Go.Proofs.YtikgcbioagmkkaaGreatDoor
