/- Contracts of the functions that the law reaches, and the law. Conditions: none. -/
import Derived.Test.YtikgcbioagmkkaaGreatDoorPKD
import Derived.Test.YtikgcbioagmkkaaGreatDoorPKA
import Derived.Test.YtikgcbioagmkkaaGreatDoorPKB
import Derived.Test.YtikgcbioagmkkaaGreatDoorPSD
set_option maxRecDepth 100000
set_option linter.all false
set_option maxHeartbeats 16000000
namespace Go.Proofs.YtikgcbioagmkkaaGreatDoor
open Go.Sy
theorem QEI(n:Int)(hn: -1000<=n/\n<=1000)(x:Ino)(k i:Int):FnC Tryz.prog 78 [.d (.it .i64 n),.dg 6 (Zn x),.dg 2 [.it .i64 k,.it .i64 i]] (.dg 36 (QR ⟨1+n,Z7 x,k,i,0⟩)):=by
 have h1:=QFI x;rw[QMy]at h1;obtain⟨g,hg⟩:=ZO (Xl x);rw[hg]at h1⊢;refine QJ i78 ?_;(repeat' (conv=>whnf);first|refine cEk h1 ?_|refine QA ?_|intro x hx hu|intro h|apply sS);rfl
theorem Xn(n:Int)(hn: -1000<=n/\n<=1000)(x:Ent)(i:Int):FnC Tryz.prog 80 [.d (.it .i64 n),.dg 4 (Xi x),.d (.it .i64 i)] (.dg 36 (QR ⟨17+n,Qh x,3,i,0⟩)):=by
 have h1:=QCM x;rw[QMz]at h1;obtain⟨g,hg⟩:=ZO (ZX x);rw[hg]at h1⊢;refine QJ i80 ?_;(repeat' (conv=>whnf);first|refine cEk h1 ?_|refine QA ?_|intro x hx hu|intro h|apply sS);rfl
def QEJ(a:Plc×Int):List D:=[.it .i64 a.1.fo,.st a.1.nm,.it .i64 (if a.1.k<0 then 0 else a.1.k),.bl (decide (a.2=0/\0<=a.1.k))]
def spV(a:Plc×Int):AV:= .tup [.dg 4 (QEJ a),.d (.it .i64 a.2)]
theorem QAf(m:List (List UInt8))(hm:XL m)(p:List UInt8)(hp:p.length<=100000):FnC Tryz.prog 75 [.d (Q9 m),.d (.st p)] (spV (ZS (imS m) p)):=by
 have h1:=QCO p hp;rw[QGH]at h1;have hul:=QKT p;have h2:=Yf m hm (Zq p).1 om;have h3:=Zb m hm (Qj (imS m) (Zq p).1).1;have h4:=QEA m hm (Qj (imS m) (Zq p).1).1 (Zq p).2.1;unfold ZS QLe;generalize Qj (imS m) (Zq p).1=r at*
 generalize Zq p=q at*
 obtain⟨up,nm,e⟩:=q;obtain⟨n,g⟩:=r;dsimp only at*
 generalize imS m=f at*
 generalize Q9 m=E at*
 replace h2:FnC Tryz.prog 65 [.d E,.d (.st up)] (.tup [.d (.it .i64 n),.d (.it .i64 g)]):=h2;replace h1:FnC Tryz.prog 84 [.d (.st p)] (.tup [.d (.st up),.d (.st nm),.d (.it .i64 e)]):=h1;generalize Qu f n=x at*
 obtain⟨kk,z,b0,b1,b2,b3⟩:=x;dsimp only;by_cases c1:e=0
 ·subst c1;rw[if_neg (by simp)];by_cases c2:g=0
  ·subst c2;rw[if_neg (by simp)];by_cases c3:kk=2
   ·subst c3;rw[if_neg (by simp)];cases hk:JA f n nm with
    |none=>
     rw[hk]at h4;replace h4:FnC Tryz.prog 121 [.d E,.d (.it .i64 n),.d (.st nm)] (.tup [.d (.it .i64 0),.d (.bl false)]):=h4;refine QJ i75 ?_;(repeat' (conv=>whnf);first|refine cEk h1 ?_|refine cEk h2 ?_|refine cEk h3 ?_|refine cEk h4 ?_|refine QA ?_|intro x hx hu|intro h|apply sS);rfl
    |some k=>
     rw[hk]at h4;replace h4:FnC Tryz.prog 121 [.d E,.d (.it .i64 n),.d (.st nm)] (.tup [.d (.it .i64 (k:Nat)),.d (.bl true)]):=h4;have e4:spV (⟨n,nm,QM0 (some k)⟩,0)= .tup [.dg 4 [.it .i64 n,.st nm,.it .i64 (k:Nat),.bl true],.d (.it .i64 0)]:=by
      unfold spV QEJ QM0;dsimp only;rw[if_neg om,decide_eq_true ⟨rfl,by omega⟩]
     rw[e4];refine QJ i75 ?_;(repeat' (conv=>whnf);first|refine cEk h1 ?_|refine cEk h2 ?_|refine cEk h3 ?_|refine cEk h4 ?_|refine QA ?_|intro x hx hu|intro h|apply sS);rfl
   ·rw [if_pos c3];refine QJ i75 ?_;(repeat' (conv=>whnf);first|refine cEk h1 ?_|refine cEk h2 ?_|refine cEk h3 ?_|refine QA ?_|intro x hx hu|intro h|apply sS);rfl
  ·rw [if_pos c2];have e4:spV (⟨0,[],0⟩,g)= .tup [.dg 4 [.it .i64 0,.st [],.it .i64 0,.bl false],.d (.it .i64 g)]:=by
    unfold spV QEJ;dsimp only;rw[decide_eq_false (λh=>c2 h.1)];rfl
   rw[e4];refine QJ i75 ?_;(repeat' (conv=>whnf);first|refine cEk h1 ?_|refine cEk h2 ?_|refine QA ?_|intro x hx hu|intro h|apply sS);rfl
 ·rw [if_pos c1];have e4:spV (⟨0,[],0⟩,e)= .tup [.dg 4 [.it .i64 0,.st [],.it .i64 0,.bl false],.d (.it .i64 e)]:=by
   unfold spV QEJ;dsimp only;rw[decide_eq_false (λh=>c1 h.1)];rfl
  rw[e4];refine QJ i75 ?_;(repeat' (conv=>whnf);first|refine cEk h1 ?_|refine QA ?_|intro x hx hu|intro h|apply sS);rfl
theorem QEK(m:List (List UInt8))(hm:XL m)(p:List UInt8)(hp:p.length<=100000):FnC Tryz.prog 81 [.d (Q9 m),.d (.st p)] (QTS (Xv (imS m) p)):=by
 have hl:=Yf m hm p hp;have hi:=Zb m hm (Qj (imS m) p).1;unfold Xv;generalize Qj (imS m) p=r at*
 obtain⟨n,g⟩:=r;dsimp only at*
 generalize Q9 m=E at*
 replace hl:FnC Tryz.prog 65 [.d E,.d (.st p)] (.tup [.d (.it .i64 n),.d (.it .i64 g)]):=hl;generalize Qu (imS m) n=x at*
 obtain⟨k,z,b0,b1,b2,b3⟩:=x;by_cases c1:g=0
 ·subst c1;rw[if_neg (by simp)];by_cases c2:k=1
  ·subst c2;rw[if_neg (by simp)];refine QJ i81 ?_;(repeat' (conv=>whnf);first|refine cEk hl ?_|refine cEk hi ?_|refine QA ?_|intro x hx hu|intro h|apply sS);rfl
  ·rw [if_pos c2];refine QJ i81 ?_;(repeat' (conv=>whnf);first|refine cEk hl ?_|refine cEk hi ?_|refine QA ?_|intro x hx hu|intro h|apply sS);rfl
 ·rw [if_pos c1];refine QJ i81 ?_;(repeat' (conv=>whnf);first|refine cEk hl ?_|refine QA ?_|intro x hx hu|intro h|apply sS);rfl
def QVN(bad:List Int)(T:Nat->Nat)(ws:List Wr):Nat×Dk->S|(k,D)=>⟨[(0,.ptr 0 0),(1,.d (.fs 36 (ws.map QR))),(5,.d (.it .i64 (k:Nat)))],Qp bad D++Qr 1 [0] T,3⟩
variable {bad:List Int}
variable {d:Dk}
variable {N n i p q:Nat}
theorem YY(h:Fd bad d N)(ws:List Wr)(hw:∀w∈ws,QEy (.wr w))(hl:ws.length<=100):
  FnH Tryz.prog 79 [.ptr 0 0,.d (.fs 36 (ws.map QR))] (Qp bad d) 1 [0] (.d (.it .i64 (Q4 bad d (ws.map .wr)).2)) (Qp bad (Q4 bad d (ws.map .wr)).1) 1:=by
 have hwl:(ws.map QR).length=ws.length:=zb ..;have hN:=h.hN;obtain⟨R,hR⟩:∃R,Q4 bad d (ws.map .wr)=R:=⟨_,rfl⟩;rw[hR];refine QL i79 λT=>?_;(repeat' (conv=>whnf);first|refine QA ?_|intro x hx hu|intro h|apply sS);conv=>whnf
 refine Ql QB (λx:Nat×Dk=>x.1<=ws.length/\Q4 bad x.2 ((ws.drop x.1).map .wr)=R/\DB x.2 (N+x.1)/\x.2.safe.length=65) (QVN bad T ws) (λx=>ws.length-x.1) (0,d) ⟨z7 _,hR,h.b,h.n⟩ Wk.e ?_;intro⟨k,D⟩ hk0;have hk:=hk0.1;have hr:=hk0.2.1;have hb:=hk0.2.2.1;have hn:=hk0.2.2.2;dsimp only at hk hr hb hn;by_cases hkl:k<ws.length
 ·obtain ⟨w,hx⟩:=Qo hkl;have hws:=hw w (ya hx);have hdr:ws.drop k=w::ws.drop (k+1):=by
   obtain⟨hk',e⟩:=z6.1 hx;rw[vj hk',e]
  rw[hdr]at hr;have hq:Q4 bad D (.wr w::(ws.drop (k+1)).map .wr)=R:=hr;unfold Q4 at hq;have hin:0<=w.a/\w.a<D.safe.length:=⟨hws.2.1,by rw[hn];exact hws.2.2⟩;have hb1:DB (wrD D w) (N+(k+1)):=⟨⟨by have:=hb.nx;show 0<=D.nx+1;omega,by have:=hb.nx;show D.nx+1<=_;omega⟩,by have:=hb.w;show(D.wait++[_]).length<=_;rw[zu,xc];omega,by have:=hb.l;show(D.log++[_]).length<=_;rw[zu,xc];omega,hb.s,hb.s0⟩;obtain⟨wa,wS,wk,wi,we⟩:=w;by_cases hbad:D.nx∈bad
  ·rw [if_pos hbad]at hq;have hW:=QLg bad D wa wS hws.1 wk wi (by have:=hb.nx;omega) h.bl (.inr hbad);rw[if_neg (by simpa using hin)]at hW;obtain⟨g,rfl⟩:=ZO hws.1;(repeat' (conv=>whnf);first|with_reducible refine Qk hx ?_|with_reducible refine AtA.mk' ?_|refine CallI.h hW [0] ?_|refine gOI ?_|intro x hx hu|intro h|apply sS);all_goals try omega
   rw[<-hq];exact QH
  ·rw [if_neg hbad]at hq;have hW:=QJC bad D wa wS hws.1 wk wi (by have:=hb.nx;omega) h.bl (by have:=hb.w;omega) (by have:=hb.l;omega) hin hbad;obtain⟨g,rfl⟩:=ZO hws.1;(repeat' (conv=>whnf);first|with_reducible refine Qk hx ?_|with_reducible refine AtA.mk' ?_|refine CallI.h hW [0] ?_|refine gOI ?_|intro x hx hu|intro h|apply sS);all_goals try omega
   exact⟨(k+1,wrD D ⟨wa,Qv g,wk,wi,we⟩),⟨hkl,hq,hb1,hn⟩,by first|omega|(dsimp only;omega),Wk.en ⟨ai rfl (ai rfl (ai (QK om) trivial)),rr,rfl⟩⟩
 ·have hnil:ws.drop k=[]:=vh om;rw[hnil]at hr;replace hr:(D,(0:Int))=R:=hr;(repeat' (conv=>whnf);first|refine QA ?_|intro x hx hu|intro h|apply sS);subst hr;exact QH
theorem QEL(fo k:Int)(nm:List UInt8)(h:0<=k):spV (⟨fo,nm,k⟩,0)= .tup [.dg 4 [.it .i64 fo,.st nm,.it .i64 k,.bl true],.d (.it .i64 0)]:=by
 unfold spV QEJ;dsimp only;rw[if_neg om,decide_eq_true ⟨rfl,h⟩]
theorem QFa(fo k:Int)(nm:List UInt8)(h:k<0):spV (⟨fo,nm,k⟩,0)= .tup [.dg 4 [.it .i64 fo,.st nm,.it .i64 0,.bl false],.d (.it .i64 0)]:=by
 unfold spV QEJ;dsimp only;rw[if_pos h,decide_eq_false (λx=>by have:=x.2;omega)]
theorem QKl(a:Plc)(e:Int)(h:e≠0):spV (a,e)= .tup [.dg 4 [.it .i64 a.fo,.st a.nm,.it .i64 (if a.k<0 then 0 else a.k),.bl false],.d (.it .i64 e)]:=by
 unfold spV QEJ;dsimp only;rw[decide_eq_false (λx=>h x.1)]
abbrev QS(d:Dk):List (List UInt8):=QY d.safe d.wait
theorem JO(h:Fd bad d N):XL (QS d):=QMr h.s h.w
theorem QH0(h:Fd bad d N)(p:List UInt8)(hp:p.length<=100000)(kind:Int):
  FnH Tryz.prog 33 [.ptr 0 0,.d (.st p),.d (.it .i64 kind)] (Qp bad d) 1 [0] (.d (.it .i64 (runP bad d (mkP (imS (QS d)) p kind)).2)) (Qp bad (runP bad d (mkP (imS (QS d)) p kind)).1) 1:=by
 have hNw:=YI bad d h.ok h.r;have hm:=JO h;have hP:=QAf (QS d) hm p hp;have hI:=QPU (QS d) hm;have hK:=QHm (QS d) hm;have hfi:=λn=>QJE (f:=imS (QS d)) (n:=n);have hfe:=λn=>QCX (f:=imS (QS d)) (n:=n);unfold mkP mkQ;replace hNw:FnH Tryz.prog 42 [.ptr 0 0] (Qp bad d) 1 [0] (.d (Q9 (QS d))) (Qp bad d) 1:=hNw;generalize ZS (imS (QS d)) p=a at*
 generalize frI (imS (QS d))=oi at*
 generalize frE (imS (QS d))=oe at*
 generalize Q9 (QS d)=E at*
 obtain⟨⟨fo,nm,k⟩,e⟩:=a;dsimp only;by_cases c1:e=0
 ·subst c1;rw[if_neg (by simp)];by_cases c2:0<=k
  ·rw [if_pos c2,ZA (by decide)];rw[QEL _ _ _ c2]at hP;refine QL i33 λT=>?_;(repeat' (conv=>whnf);first|refine cEk hP ?_|refine CallI.h hNw [0] ?_|refine gOI ?_|intro x hx hu|intro h|apply sS);exact QH
  ·rw [if_neg c2];rw[QFa _ _ _ om]at hP;cases oi with
   |none=>
    show FnH _ _ _ _ _ _ (.d (.it .i64 (runP bad d (2,[])).2)) (Qp bad (runP bad d (2,[])).1) _;rw[ZA (by decide)];replace hI:FnC Tryz.prog 76 [.d E] (.tup [.d (.it .i64 0),.d (.bl false)]):=hI;cases oe with
    |none=>
     replace hK:FnC Tryz.prog 77 [.d E] (.tup [.d (.it .i64 0),.d (.bl false)]):=hK;refine QL i33 λT=>?_;(repeat' (conv=>whnf);first|refine cEk hP ?_|refine cEk hI ?_|refine cEk hK ?_|refine CallI.h hNw [0] ?_|refine gOI ?_|intro x hx hu|intro h|apply sS);exact QH
    |some k=>
     replace hK:FnC Tryz.prog 77 [.d E] (.tup [.d (.it .i64 (k:Nat)),.d (.bl true)]):=hK;refine QL i33 λT=>?_;(repeat' (conv=>whnf);first|refine cEk hP ?_|refine cEk hI ?_|refine cEk hK ?_|refine CallI.h hNw [0] ?_|refine gOI ?_|intro x hx hu|intro h|apply sS);exact QH
   |some n=>
    replace hI:FnC Tryz.prog 76 [.d E] (.tup [.d (.it .i64 (n:Nat)),.d (.bl true)]):=hI;cases oe with
    |none=>
     replace hK:FnC Tryz.prog 77 [.d E] (.tup [.d (.it .i64 0),.d (.bl false)]):=hK;show FnH _ _ _ _ _ _ (.d (.it .i64 (runP bad d (2,[])).2)) (Qp bad (runP bad d (2,[])).1) _;rw[ZA (by decide)];refine QL i33 λT=>?_;(repeat' (conv=>whnf);first|refine cEk hP ?_|refine cEk hI ?_|refine cEk hK ?_|refine CallI.h hNw [0] ?_|refine gOI ?_|intro x hx hu|intro h|apply sS);exact QH
    |some q=>
     replace hK:FnC Tryz.prog 77 [.d E] (.tup [.d (.it .i64 (q:Nat)),.d (.bl true)]):=hK;have hn:=hfi n rfl;have hq:=hfe q rfl;dsimp only;rw[Z8];have g1:=QEI (n:Nat) om ⟨kind,0,0,0,0,0⟩ 2 (n:Nat);have g2:=Xn (q:Nat) om ⟨true,fo,nm,(n:Nat)⟩ fo;have g3:=YY h [⟨1+(n:Nat),Z7 ⟨kind,0,0,0,0,0⟩,2,(n:Nat),0⟩,⟨17+(q:Nat),Qh ⟨true,fo,nm,(n:Nat)⟩,3,fo,0⟩] (λs hs=>by
      simp only[zi,xq,or_false]at hs;rcases hs with rfl|rfl
      ·exact ⟨Xl _,by show(0:Int)<=1+_;omega,by show(1:Int)+_<_;omega⟩
      ·exact ⟨ZX _,by show(0:Int)<=17+_;omega,by show(17:Int)+_<_;omega⟩) (by simp)
     obtain⟨s1,e1⟩:=ZO (Xl ⟨kind,0,0,0,0,0⟩);obtain⟨s2,e2⟩:=ZO (ZX ⟨true,fo,nm,(n:Nat)⟩);replace g3:FnH Tryz.prog 79 [.ptr 0 0,.d (.fs 36 [QR ⟨1+(n:Nat),Z7 ⟨kind,0,0,0,0,0⟩,2,(n:Nat),0⟩,QR ⟨17+(q:Nat),Qh ⟨true,fo,nm,(n:Nat)⟩,3,fo,0⟩])] (Qp bad d) 1 [0] (.d (.it .i64 (Q4 bad d [.wr ⟨1+(n:Nat),Z7 ⟨kind,0,0,0,0,0⟩,2,(n:Nat),0⟩,.wr ⟨17+(q:Nat),Qh ⟨true,fo,nm,(n:Nat)⟩,3,fo,0⟩]).2)) (Qp bad (Q4 bad d [.wr ⟨1+(n:Nat),Z7 ⟨kind,0,0,0,0,0⟩,2,(n:Nat),0⟩,.wr ⟨17+(q:Nat),Qh ⟨true,fo,nm,(n:Nat)⟩,3,fo,0⟩]).1) 1:=g3;generalize Q4 bad d [.wr ⟨1+(n:Nat),Z7 ⟨kind,0,0,0,0,0⟩,2,(n:Nat),0⟩,.wr ⟨17+(q:Nat),Qh ⟨true,fo,nm,(n:Nat)⟩,3,fo,0⟩]=R at*
     rw[e1]at g1 g3;rw[e2]at g2 g3;refine QL i33 λT=>?_;(repeat' (conv=>whnf);first|refine cEk hP ?_|refine cEk hI ?_|refine cEk hK ?_|refine cXk g1 ?_|refine cXk g2 ?_|refine CallI.h hNw [0] ?_|refine CallI.hp g3 [0] ?_|refine gD ?_|refine gOI ?_|intro x hx hu|intro h|apply sS);exact QH
 ·rw [if_pos c1,ZA c1];rw[QKl _ _ c1]at hP;refine QL i33 λT=>?_;(repeat' (conv=>whnf);first|refine cEk hP ?_|refine CallI.h hNw [0] ?_|refine gOI ?_|intro x hx hu|intro h|apply sS);exact QH
def fvA(T0:Nat)(bad:List Int)(d:Dk)(j:Nat):S:=⟨[(0,.ptr 0 0),(13,.d (.fs 1 (vI bad))),(14,.d (.it .i64 (bad.length:Nat))),(15,.d (.it .i64 (j:Nat)))],[(7,.mp true false [.it .i64 0] (QAG (bad.take j))),(0,.cells 6 [.mp 7,.d (.it .i64 0),.vx 32 4 0 d.safe.length,.ts 36 (d.wait.map QR) 1,.ts 38 d.log 2,.d (.it .i64 d.ep)]),(1,.tail 49 true),(2,.tail 110 true),(4,.vec 37 32 (d.safe.map QF) false),(5,.frame 6 [(0,.ptr 0 0)]),(6,.tag 0 T0)],8⟩
def QTq(u:Nat)(bad:List Int)(d:Dk):List (Nat×Ob):=[(0,.cells 6 [.mp u,.d (.it .i64 d.nx),.vx 32 4 0 d.safe.length,.ts 36 (d.wait.map QR) 1,.ts 38 d.log 2,.d (.it .i64 d.ep)]),(1,.tail 49 true),(2,.tail 110 true),(4,.vec 37 32 (d.safe.map QF) false),(u,.mp true false [.it .i64 0] (QAG bad))]
def z0f(d:Dk):Dk:=⟨0,d.safe,d.wait,d.log,d.ep⟩
variable {b:Bool}
theorem QNh{ag:Bool}{tp:List D}{l l':List (List D×D)}(h:l=l'):Ob.mp b ag tp l=Ob.mp b ag tp l':=by rw[h]
theorem QNi(b:Bool)(bad0 bad:List Int)(d:Dk)(hs:d.safe.length≠0)(hl:bad.length<=1000000):FnH Tryz.prog 92 [.ptr 0 0,.d (.fs 1 (vI bad))] (Z4 b bad0 d) 5 [0] (.tup []) (QTq 7 bad (z0f d)) 8:=by
 have hn:FnC Tryz.prog 57 [.d (Qg (some d))] (.d (.bl false)):=by
  have:=Ye (some d);rw[show QA5 (some d)=false from decide_eq_false hs]at this;exact this
 have hv:(vI bad).length=bad.length:=zb ..;refine QL i92 λT=>?_;(repeat' (conv=>whnf);first|refine rFk hn ?_|refine OpX.makeMap false [.it .i64 0] rfl rfl ?_|refine gOI ?_|intro x hx hu|intro h|apply sS);conv=>whnf
 refine QT QB (λj:Nat=>j<=bad.length) (fvA (T 0) bad d) (λj=>bad.length-j) 0 (z7 _) ⟨ai rfl (ai rfl (ai (QK (by rw[hv])) rr)),rr,rfl⟩ ?_;intro j hj;by_cases hjl:j<bad.length
 ·obtain ⟨x,hx⟩:=Qo hjl;unfold fvA vI;unfold vI at hv;(repeat' (conv=>whnf);first|refine OpX.mapUpdate (kx:= .it .i64 x) rfl rfl Tryz.underlying89 Tryz.underlying3 rfl rfl rfl rfl rfl rfl rfl ?_|refine QA ?_|intro x hx hu|intro h|apply sS);refine again (j+1) hjl (by first|omega|(dsimp only;omega)) (ai rfl (ai rfl (ai rfl (ai (QK om) trivial)))) (ai (QNh (by rw[QW hx,QFM];rfl)) rr) rfl
 ·have hje:j=bad.length:=by omega
  (repeat' (conv=>whnf);first|refine QA ?_|intro x hx hu|intro h|apply sS);subst hje;conv=>whnf
  refine⟨_,⟨λκ g a w hst=>⟨g,hst⟩⟩,rfl,ai rfl (ai rfl (ai rfl (ai rfl (ai (QNh (by rw[x7])) trivial)))),rr⟩
def dk0(l:List (List UInt8)):Dk:=⟨0,l,[],[],0⟩
def QH1(n0 n1 n2 n3 n4:Nat)(b:Bool)(bad:List Int)(d:Dk):List (Nat×Ob):=[(n0,.cells 6 [.mp n3,.d (.it .i64 d.nx),.vx 32 n4 0 d.safe.length,.ts 36 (d.wait.map QR) n1,.ts 38 d.log n2,.d (.it .i64 d.ep)]),(n1,.tail 49 true),(n2,.tail 110 true),(n3,.mp b false [.it .i64 0] (QAG bad)),(n4,.vec 37 32 (d.safe.map QF) false)]
theorem QRr{L:List AV}{u m n1 n2:Nat}(hL:L=[.mp u,.d (.it .i64 0),.vx 32 n 0 m,.ts 36 [] n1,.ts 38 [] n2,.d (.it .i64 0)]){k:Nat}(h:m=k):Ob.cells 6 L=Ob.cells 6 [.mp u,.d (.it .i64 0),.vx 32 n 0 k,.ts 36 [] n1,.ts 38 [] n2,.d (.it .i64 0)]:=by rw[hL,h]
theorem QH2(l:List (List UInt8))(h:1<=l.length/\l.length<=65):FnH Tryz.prog 18 [.d (.fs 32 (l.map QF))] [] 0 [] (.tup [.ptr 7 0,.d (.it .i64 0)]) (QH1 7 9 10 8 6 false [] (dk0 l)) 11:=by
 have hl:(l.map QF).length=l.length:=zb ..;have hne:(l.map QF).isEmpty=false:=by
  cases l with
  |nil=>simp at h
  |cons=>rfl
 refine QL i18 λT=>?_;(repeat' (conv=>whnf);first|refine cI i59 ?_|refine cI i60 ?_|with_reducible refine Spl.no hne ?_|refine JD.vec (ai rfl ?_)|refine JD.vec ?_|refine gOI ?_|intro x hx hu|intro h|apply sS);all_goals try omega
 conv=>whnf
 refine⟨⟨[(2,.ptr 7 0),(3,.d (.it .i64 0))],QH1 7 9 10 8 6 false [] (dk0 l)++Qr 0 [] T,11⟩,?_,rfl,rr,rr⟩;refine Wk.trans (Wk.nlMp 7 0 6 false [.it .i64 0] wu wu) ?_;refine Wk.trans (Wk.nlTs 7 3 6 36 49 wu wu) ?_;refine Wk.trans (Wk.nlTs 7 4 6 38 110 wu wu) ?_;exact Wk.en ⟨rr,ai (by (conv=>whnf);exact QRr wu hl) rr,rfl⟩
theorem QNj(l:List (List UInt8))(h:¬(1<=l.length/\l.length<=65)):FnC Tryz.prog 18 [.d (.fs 32 (l.map QF))] (.tup [.d (.ot (.pointer none)),.d (.it .i64 1)]):=by
 have hl:(l.map QF).length=l.length:=zb ..;refine QJ i18 ?_;(repeat' (conv=>whnf);first|refine cI i59 ?_|refine gOI ?_|intro x hx hu|intro h|apply sS);all_goals try omega
 all_goals rfl
theorem QNk(b0 bad:List Int)(hl:bad.length<=100000)(d:Dk):FnH Tryz.prog 39 [.ptr 0 0,.d (.fs 1 (vI bad))] (Qp b0 d) 1 [0] (.tup []) (Qp bad ⟨0,d.safe,d.wait,d.log,d.ep⟩) 1:=by
 have hv:(vI bad).length=bad.length:=zb ..;refine QL i39 λT=>?_;(repeat' (conv=>whnf);first|refine QA ?_|intro x hx hu|intro h|apply sS);refine⟨⟨[(0,.ptr 0 0)],[(0,.cells 6 [.d (.fs 32 (d.safe.map QF)),.d (.fs 36 (d.wait.map QR)),.d (.it .i64 d.ep),.d (.fs 38 d.log),.d (.fs 1 (vI bad)),.d (.it .i64 0)]),(1,.frame 2 [(0,.ptr 0 0)]),(2,.tag 0 (T 0))],3⟩,Wk.vwL (ai (Vw.eq rfl) trivial) (ai (VwO.cells _ _ _ (.cons (Vw.eq rfl) rfl (.cons (Vw.eq rfl) rfl (.cons (Vw.eq rfl) rfl (.cons (Vw.eq rfl) rfl (.cons (Vw.ts' rfl) rfl (.cons (Vw.eq rfl) rfl .nil))))))) (ai (VwO.same _) (ai (VwO.same _) trivial))) rfl,rfl,ai rfl trivial,ai rfl rr⟩
theorem QNl(m:List (List UInt8))(h:¬(1<=m.length/\m.length<=65)):FnC Tryz.prog 19 [.d (Q9 m)] (.tup [.d (.ot (.pointer none)),.d (.it .i64 1)]):=by
 have hml':(m.map QF).length=m.length:=zb ..;refine QJ i19 ?_;(repeat' (conv=>whnf);first|refine cI i61 ?_|refine gOI ?_|intro x hx hu|intro h|apply sS);all_goals first|omega|rfl
def flE(l:List (List UInt8)):List D:=(l.map QF).flatten
theorem QGZ{l:List (List UInt8)}(h:XL l):(flE l).length=l.length*32:=by
 induction l with
 |nil=>rfl
 |cons x t ih=>
  have hx:(QF x).length=32:=by rw[Za];exact h x zo
  show(QF x++flE t).length=_;rw[zu,hx,ih λy hy=>h y (zk _ hy),yq];omega
theorem QNm(l:List (List UInt8))(x:List UInt8):flE (l++[x])=flE l++QF x:=by
 unfold flE;rw[ye,Ve];simp
def frL(m:List (List UInt8))(i:Nat):List AV:=(flE (m.take i)).map AV.d++List.replicate ((m.length-i)*32) (AV.d (.it .u8 0))
variable {m:List (List UInt8)}
theorem QPz(h:XL m)(hi:i<=m.length):(frL m i).length=m.length*32:=by
 unfold frL;rw[zu,zb,QGZ (λs hs=>h s (xg hs)),kf,zy,<-z2];congr 1;omega
variable {x:List UInt8}
theorem QNn(h:XL m)(hx:m[i]? =some x)(hp:p=i*32)(hq:q=i*32+32):(frL m i).take p++(QF x).map AV.d++(frL m i).drop q=frL m (i+1):=by
 subst hp hq;have hil:=(z6.1 hx).1;have h1:((flE (m.take i)).map AV.d).length=i*32:=by rw[zb,QGZ (λs hs=>h s (xg hs)),zy,ud om]
 unfold frL;rw[ua om,z8 om,jh,qb om,xf,h1,jq,QW hx,QNm,ye];congr 2;have:m.length-i=m.length-(i+1)+1:=by omega
 rw[this,z2];omega
theorem QLx(h:XL m)(hx:m[i]? =some x){y:List D}(hy:y=QF x)(hp:p=i*32)(hq:q=i*32+32):(frL m i).take p++y.map AV.d++(frL m i).drop q=frL m (i+1):=by rw[hy];exact QNn h hx hp hq
theorem QP0(m:List (List UInt8))(h:XL m):((frL m m.length).drop 0).take (m.length*32)=(m.map QF).flatten.map AV.d:=by
 unfold frL;rw[x7,jx,kr,List.replicate_zero,y4,vl,z8 (by rw[zb,QGZ h];exact zt _)];rfl
theorem QNo:(frL m i).all (AV.lt1 n)=true:=by
 unfold frL;rw[vn,Xh,wz,ze];intro x hx;rw[(jv.1 hx).2];rfl
def QRs(m:List (List UInt8))(i:Nat):S:=⟨[(0,.d (Q9 m)),(4,.ptr 3 0),(6,.d (.it .i64 (i:Nat)))],[(3,.cells 6 [.ms 32 2 0 m.length m.length,.nl 36,.d (.it .i64 0),.nl 38,.nl 1,.d (.it .i64 0)]),(2,.cells (m.length*32) (frL m i)),(0,.frame 1 [])],4⟩
theorem frA_ok(m:List (List UInt8))(i:Nat):(QRs m i).ok=true:=by
 unfold QRs;simp only[S.ok,y9,xr,Ob.lt,QNo];rfl
theorem QFb(k:Nat):∀n,Zx n (List.replicate k (D.it .u8 0))=List.replicate (n*k) (D.it .u8 0)
 |0=>by rw[kr];rfl
 |n+1=>by
  show List.replicate k _++Zx n _=_;rw[QFb k n,List.replicate_append_replicate];congr 1;rw[z2];omega
theorem QNp(m:List (List UInt8))(l:List D)(hl:l=List.replicate 32 (D.it .u8 0))(hn:n=m.length):(Zx n l).map toA=frL m 0:=by
 subst hl hn;rw[QFb,uq];rfl
theorem QTr{a b:Nat}(h:a=b):AV.ms 32 2 0 a a=AV.ms 32 2 0 b b:=by rw[h]
theorem QTs{u v:AV}(h:u=v){l:List AV}:Ob.cells 6 (u::l)=Ob.cells 6 (v::l):=by rw[h]
theorem QNq(m:List (List UInt8))(hm:XL m)(h:1<=m.length/\m.length<=65):FnH Tryz.prog 19 [.d (Q9 m)] [] 0 [] (.tup [.ptr 3 0,.d (.it .i64 0)]) [(3,.cells 6 [.d (.fs 32 (m.map QF)),.d (.fs 36 []),.d (.it .i64 0),.d (.fs 38 []),.d (.fs 1 []),.d (.it .i64 0)])] 4:=by
 have hml':(m.map QF).length=m.length:=zb ..;refine QL i19 λT=>?_;(repeat' (conv=>whnf);first|refine cI i61 ?_|refine gOI ?_|intro x hx hu|intro h|apply sS);all_goals try omega
 conv=>whnf
 refine QT QB (λi:Nat=>i<=m.length) (QRs m) (λi=>m.length-i) 0 (z7 _) ⟨ai rfl rr,ai (QTs (QTr hml')) (ai (Qt (by rw[<-hml'];simp) (QNp m _ rfl (by rw[<-hml'];rfl))) rr),frA_ok m 0⟩ ?_;intro i hi;have hfl:=QPz hm hi;rcases yj i m.length with hil|hil
 ·obtain ⟨x,hx⟩:=Qo hil;have hxs:=hm x (ya hx);(repeat' (conv=>whnf);first|with_reducible refine QAD (x:=x) om hx ?_|with_reducible refine AtA.mk' ?_|refine QA ?_|intro x hx hu|intro h|apply sS);refine again (i+1) hil (by first|omega|(dsimp only;omega)) (ai rfl (ai rfl (ai (QK om) trivial))) (ai rfl (ai (Qt rfl (QLx hm hx (z8 (by rw[Za,hxs];exact zt _)) (by show 0+i*32=i*32;omega) (by show 0+i*32+32=i*32+32;omega))) rr)) (frA_ok ..)
 ·have hie:i=m.length:=by omega
  subst hie;(repeat' (conv=>whnf);first|refine QA ?_|intro x hx hu|intro h|apply sS);refine⟨⟨[(2,.ptr 3 0),(3,.d (.it .i64 0))],[(3,.cells 6 [.d (.fs 32 (m.map QF)),.d (.fs 36 []),.d (.it .i64 0),.d (.fs 38 []),.d (.fs 1 []),.d (.it .i64 0)]),(0,.frame 1 [])],4⟩,
   Wk.trans (τ:=⟨[(2,.ptr 3 0),(3,.d (.it .i64 0))],[(3,.cells 6 [.ms 32 2 0 m.length m.length,.d (.fs 36 []),.d (.it .i64 0),.d (.fs 38 []),.d (.fs 1 []),.d (.it .i64 0)]),(2,.cells (m.length*32) (frL m m.length)),(0,.frame 1 [])],4⟩)
    (Wk.vwL (ai (Vw.eq rfl) (ai (Vw.eq rfl) trivial)) (ai (VwO.cells _ _ _ (.cons (Vw.eq rfl) rfl (.cons (Vw.nl' rfl) rfl (.cons (Vw.eq rfl) rfl (.cons (Vw.nl' rfl) rfl (.cons (Vw.nl' rfl) rfl (.cons (Vw.eq rfl) rfl .nil))))))) (ai (VwO.same _) (ai (VwO.same _) trivial))) (by simp only[S.ok,y9,xr,Ob.lt,QNo];rfl))
    (Wk.frzMsOL 2 (m.length*32) (frL m m.length) rfl (ai ⟨_,rfl,.inl rfl⟩ (ai ⟨_,rfl,.inl rfl⟩ trivial)) (ai ⟨rfl,_,rfl,MsO.first (.inr ⟨32,0,m.length,m.length,m.map QF,rfl,rfl,by omega,hml',(λx hx=>by obtain⟨y,hy,rfl⟩:=yf.1 hx;rw[Za];exact hm y hy),QP0 m hm⟩) rfl (by simp[AV.sc])⟩ (ai ⟨rfl,_,rfl,.same _⟩ trivial)) rfl),
   rfl,ai rfl trivial,ai rfl trivial⟩
theorem QEM(h:Fd bad d N)(hm:QBk (Y9 (some d))):
  FnH Tryz.prog 20 [.ptr 0 0] (Z4 b bad d) 5 [0] (.tup [.ptr 8 0,.d (.it .i64 0)]) ((8,.cells 1 [.ptr 0 0])::Z4 b bad d) 9:=by
 have hs:=QGK (some d) h.ok;have hmn:=QDy (some d) h.ok;rw[decide_eq_true hm]at hmn;have h0:(QD5 (some d)).length≠0:=by have:=h.b.s0;exact this
 have hsl:((QD5 (some d)).map QF).length=(QD5 (some d)).length:=zb ..;refine QL i20 λT=>?_;(repeat' (conv=>whnf);first|refine rFk hmn ?_|refine CallI.byRL (ArF.fr _ _ _ _ (frD wu wu) .nil) hs (λh0'=>absurd (hsl.symm.trans (congrArg List.length h0')) h0) (λoff cap hpos=>?_)|refine gOI ?_|intro x hx hu|intro h|apply sS);all_goals try omega
 exact QH
theorem QH3(d:Dk):Y9 (some d)=QS d:=by
 have hl:(QS d).length=d.safe.length:=Z2 _ _;refine vg (by rw[hl];unfold Y9;rw[zb,xj]) λi h1 h2=>?_;have e:=QGJ d (i:Nat) om;rw[List.getElem_of_eq (show Y9 (some d)=(List.range d.safe.length).map (λk:Nat=>rdS (some d) (k:Nat))from rfl),z1,x5,e];unfold imS;rw[kj,zr,zj h2];rfl
def uD(f:Int->List UInt8):List Bool:=(List.range 25).map λb:Nat=>decide (b=0)||QD2 f (b:Nat)
theorem QTt(f:Int->List UInt8)(j:Nat)(h:j<(uD f).length):(uD f)[j]=(decide (j=0)||QD2 f (j:Nat)):=by simp only[uD,z1,x5]
variable {R:List Bool}
theorem QTu{f:Int->List UInt8}(hl:R.length=25)(h:∀j:Nat,1<=j->j<25->R.getD j false=usK f 16 (j:Nat)):R.set 0 true=uD f:=by
 refine vg (by rw[v8,hl];unfold uD;simp) λj h1 h2=>?_;rw[QTt,ub];rw[v8,hl]at h1;by_cases hj:0=j
 ·rw [if_pos hj,decide_eq_true hj.symm,Vi]
 ·rw [if_neg hj,decide_eq_false (λe=>hj e.symm),ul];have:=h j om h1;rw[zr,zj om]at this;exact this
theorem QRt(f:Int->List UInt8)(j:Nat)(h1:1<=j)(h2:j<25):(uD f).getD j false=QD2 f (j:Nat):=by
 unfold uD;rw[zr,yv,js h2];show(decide (j=0)||_)=_;rw[decide_eq_false om,ul]
theorem QRu{x:Ino}(h:RI x)(hk:x.k≠1)(j:Nat)(hj:1<=j):((j:Nat):Int)∉J5 x:=by
 rcases h with h|h
 ·unfold J5;rw[h.2.2.1,h.2.2.2.1,h.2.2.2.2.1,h.2.2.2.2.2];simp;omega
 ·exact absurd h.1 hk
def F25:List Bool:=List.replicate 25 false
def usS(E:D)(R:List Bool)(k:Nat):S:=⟨[(0,.d E),(2,.ptr 0 0),(3,.ptr 1 0),(4,.d (.it .i64 (k:Nat)))],[(0,.cells 25 ((F25.map D.bl).map .d)),(1,.cells 25 ((R.map D.bl).map .d))],2⟩
theorem QGa(E:D)(R:List Bool)(k:Nat):(usS E R k).ok=true:=by
 unfold usS;simp only[S.ok,y9,xr,Ob.lt,Xh];rfl
def QRv(E:D)(R:List Bool)(k:Nat)(B:List D)(i:Nat):S:=⟨[(0,.d E),(2,.ptr 0 0),(3,.ptr 1 0),(4,.d (.it .i64 (k:Nat))),(5,.ptr 2 0),(6,.d (.it .i64 (i:Nat)))],[(0,.cells 25 ((F25.map D.bl).map .d)),(1,.cells 25 ((R.map D.bl).map .d)),(2,.cells 6 (B.map .d))],3⟩
theorem QKm(E:D)(R:List Bool)(k:Nat)(B:List D)(i:Nat):(QRv E R k B i).ok=true:=by
 unfold QRv;simp only[S.ok,y9,xr,Ob.lt,Xh];rfl
def allT(_:Int):Bool:=true
theorem QVO{ty:Ty}{a:List AV}(hx:a=(R.map D.bl).map AV.d)(h:R.length=N)(ha:ty.kd.agg=true)(hz:ty.size=N):ldA ty 0 a= .dg N (R.map D.bl):=by rw[hx];exact QPT h ha hz
theorem QNr(m:List (List UInt8))(hm:XL m):FnC Tryz.prog 136 [.d (Q9 m)] (.dg 25 ((uD (imS m)).map D.bl)):=by
 have ht:=λn=>QCv m hm n;have he:=λn=>Zb m hm n;have hRI:=λn=>QD1 (imS m) n;generalize Q9 m=E at*
 refine QJ QUR ?_;(repeat' (conv=>whnf);first|refine QA ?_|intro x hx hu|intro h|apply sS);conv=>whnf
 refine QT QB (λx:Nat×List Bool=>x.1<=16/\x.2.length=25/\∀j:Nat,1<=j->j<25->x.2.getD j false=usK (imS m) x.1 (j:Nat)) (fun|(k,R)=>usS E R k) (λx=>16-x.1) (0,F25) ⟨z7 _,rfl,λj _ hj=>by unfold F25;rw[zr,Wv,if_pos hj];rfl⟩ ⟨rr,ai (Qt rfl wu) (ai (Qt rfl wu) trivial),QGa ..⟩ ?_;intro⟨k,R⟩ hk0;have hk:=hk0.1;have hl:=hk0.2.1;have hR:=hk0.2.2;dsimp only at hk hl hR;by_cases hk16:k<16
 ·have hx:=he (k:Nat);have hxR:=hRI (k:Nat);have hT:=ht (k:Nat);have hus:=λh b=>QKX (f:=imS m) (k:=k) h b;have hun:=λh b=>QNO (f:=imS m) (k:=k) h b;generalize Qu (imS m) (k:Nat)=x at*
  have hbr:=QHq hxR;have hbg:= @QHr x;have hbz:=QRu hxR;have hxe:Zn x=[.it .i64 x.k,.it .i64 x.z,.it .i64 x.b0,.it .i64 x.b1,.it .i64 x.b2,.it .i64 x.b3]:=rfl;rw[hxe]at hx;have hsame:(¬Xd (imS m) (k:Nat)\/x.k≠1)->∀j:Nat,1<=j->j<25->R.getD j false=usK (imS m) (k+1) (j:Nat):=λh j h1 h2=>by
   rw[hR j h1 h2];by_cases hq:Xd (imS m) (k:Nat)
   ·rw [hus hq,decide_eq_false (hbz (h.resolve_left (λx=>x hq)) j h1),qd]
   ·rw [hun hq]
  by_cases hk1:x.k=1
  ·rw [hk1]at hx;by_cases hq:Xd (imS m) (k:Nat)
   ·rw [decide_eq_true hq]at hT;(repeat' (conv=>whnf);first|refine cEk hx ?_|refine cEk hT ?_|refine QA ?_|intro x hx hu|intro h|apply sS);conv=>whnf
    refine QT QB (λy:Nat×List Bool=>y.1<=4/\y.2=mkS allT R ((J5 x).take y.1)) (fun|(i,R')=>QRv E R' k [.it .i64 1,.it .i64 x.z,.it .i64 x.b0,.it .i64 x.b1,.it .i64 x.b2,.it .i64 x.b3] i) (λy=>4-y.1) (0,R) ⟨z7 _,rfl⟩ ⟨rr,rr,QKm ..⟩ ?_;intro⟨i,R'⟩ hi0;have hi4:=hi0.1;have hR':=hi0.2;dsimp only at hi4 hR';have hl':R'.length=25:=by rw[hR',QGQ];exact hl
    by_cases hi44:i<4
    ·have hb:=hbg i hi44;have hbr':=hbr _ (ya hb);have hst:R'.set (ZR x i).toNat (allT (ZR x i))=mkS allT R ((J5 x).take (i+1)):=by rw[QW hb,QHp,<-hR']
     have htl:(ZR x i).toNat<R'.length:=by omega
     have hi3:i=0\/i=1\/i=2\/i=3:=by omega
     rcases hi3 with rfl|rfl|rfl|rfl;all_goals (
      simp only[ZR]at hst hbr' htl;(repeat' (conv=>whnf);first|refine QA ?_|intro x hx hu|intro h|apply sS);refine again (_+1,R'.set _ true) ⟨by omega,hst⟩ (by first|omega|(dsimp only;omega)) (ai rfl (ai rfl (ai rfl (ai rfl (ai rfl (ai (QK (by first|omega|(dsimp only;omega))) trivial)))))) (ai rfl (ai (Qt rfl (stR htl rfl rfl)) rr)) (QKm ..))
    ·have hi:i=4:=by omega
     have hall:(J5 x).take i=J5 x:=by rw[hi];rfl
     rw[hall]at hR';(repeat' (conv=>whnf);first|refine QA ?_|intro x hx hu|intro h|apply sS);refine again (k+1,R') ⟨hk16,hl',λj h1 hj=>?_⟩ (by first|omega|(dsimp only;omega)) (ai rfl (ai rfl (ai rfl (ai (QK (by first|omega|(dsimp only;omega))) trivial)))) rr (QGa ..);rw[hR',QGR allT _ _ om (λb hb=>(hbr b hb).1),hus hq];by_cases hm:((j:Nat):Int)∈J5 x
     ·rw [if_pos hm,decide_eq_true hm,Vk];rfl
     ·rw [if_neg hm,decide_eq_false hm,qd];exact hR j h1 hj
   ·rw [decide_eq_false hq]at hT;(repeat' (conv=>whnf);first|refine cEk hx ?_|refine cEk hT ?_|refine QA ?_|intro x hx hu|intro h|apply sS);exact again (k+1,R) ⟨hk16,hl,hsame (.inl hq)⟩ (by first|omega|(dsimp only;omega)) (ai rfl (ai rfl (ai rfl (ai (QK (by first|omega|(dsimp only;omega))) trivial)))) rr (QGa ..)
  ·(repeat' (conv=>whnf);first|refine cEk hx ?_|refine cEk hT ?_|refine QA ?_|intro x hx hu|intro h|apply sS);all_goals try omega
   exact again (k+1,R) ⟨hk16,hl,hsame (.inr hk1)⟩ (by first|omega|(dsimp only;omega)) (ai rfl (ai rfl (ai rfl (ai (QK (by first|omega|(dsimp only;omega))) trivial)))) rr (QGa ..)
 ·have h16:k=16:=by omega
  rw[h16]at hR;have hfin:=QTu hl hR;have htl:0<R.length:=by omega
  have hl0:(R.set 0 true).length=25:=by rw[v8];exact hl
  (repeat' (conv=>whnf);first|refine AtA.eq (QVO (R:=R.set 0 true) (stR (b:=true) htl wu wu) hl0 rfl rfl) ?_|refine QA ?_|intro x hx hu|intro h|apply sS);conv=>whnf
  generalize hv:ldA _ 0 _=v;have hv':v= .dg 25 ((R.set 0 true).map D.bl):=by
   rw[<-hv];refine(congrArg _ (show _=((R.set 0 true).map D.bl).map AV.d by show []++_++[]=_;rw[xf,y4])).trans (QPT hl0 rfl rfl)
  rw[hv'];show AV.dg 25 ((R.set 0 true).map D.bl)=_;rw[hfin]
theorem QTv(l:List Int)(n:Nat):(frV l n).isP=true:=by
 unfold frV;split<;>rfl
def rbA(E:D)(J:List Bool)(n:Nat)(i:Nat)(l:List Nat):S:=⟨[(0,.d E),(1,.d (.it .i64 (n:Nat))),(6,.ts 1 (vN l) 1),(7,.ptr 2 0),(8,.d (.it .i64 (i:Nat)))],[(1,.tail 3 true),(2,.cells 25 ((J.map D.bl).map .d))],3⟩
theorem QJT(E:D)(J:List Bool)(n:Nat)(i:Nat)(l:List Nat):(rbA E J n i l).ok=true:=by
 unfold rbA;simp only[S.ok,y9,xr,Ob.lt,Xh];rfl
theorem QP1(m:List (List UInt8))(hm:XL m)(n:Nat)(hn:n<=100):FnC Tryz.prog 83 [.d (Q9 m),.d (.it .i64 (n:Nat))] (frV (frB (imS m) n) n):=by
 have hu:=QNr m hm;have hJ:(uD (imS m)).length=25:=by unfold uD;simp
 have hg:=QQr (QRt (imS m)) n;have hs:=fun{i:Nat}=> @QBs (λj=>(uD (imS m)).getD j false) 1 i;have ht:=fun{i:Nat}=> @QDX (λj=>(uD (imS m)).getD j false) 1 i 25 n;have hfl:=QGN (λj=>(uD (imS m)).getD j false) 1;have h0:FL (λj=>(uD (imS m)).getD j false) 1 1=[]:=rfl;generalize FL (λj=>(uD (imS m)).getD j false) 1=F at*
 generalize uD (imS m)=J at*
 have hvl:=QNP (frB (imS m) n);generalize frB (imS m) n=L at*
 generalize Q9 m=E at*
 refine QJ i83 ?_ (QTv _ _);(repeat' (conv=>whnf);first|refine cEk hu ?_|refine QA ?_|intro x hx hu|intro h|apply sS);conv=>whnf
 refine QT QB (λx:Nat×List Nat=>1<=x.1/\x.1<=25/\x.2=(F x.1).take n) (fun|(i,l)=>rbA E J n i l) (λx=>25-x.1) (1,[]) ⟨zt _,by decide,by rw[h0,qc]⟩ ⟨rr,ai rfl (ai (Qt rfl (by show []++_++[]=_;rw[xf,y4])) trivial),QJT ..⟩ ?_;intro⟨i,l⟩ hi0;have hi1:=hi0.1;have hi2:=hi0.2.1;have hil:=hi0.2.2;dsimp only at hi1 hi2 hil;have hll:(vN l).length=l.length:=zb ..;have hfi:=hfl i;have hl2:l.length<=n/\l.length<=(F i).length:=by rw[hil,zy];omega
 have hst:n<=l.length\/¬i<25->vN l=vI L:=λh=>by
  rw[<-hg];rcases h with h|h
  ·rw [hil,ht hi1 hi2 om]
  ·rw [hil,show i=25 by omega]
 have hgo:l.length<n->l=F i:=λh=>by
  rw[hil,zy]at h;rw[hil,z8 om]
 have hsu:=hs hi1;have hend:vN l=vI L->l.length=L.length:=λh=>by
  have:=congrArg List.length h
  rwa [hll,hvl]at this
 by_cases hia:i<25
 ·obtain ⟨r,hr⟩:=Qo (l:=J) (k:=i) om;have hrd:J.getD i false=r:=by rw[zr,hr];rfl
  rw[hrd]at hsu;by_cases hln:l.length<n
  ·have hlF:=hgo hln;cases r with
   |true=>
    rw[if_pos rfl,y4]at hsu;(repeat' (conv=>whnf);first|refine AtA.eq (ldR hr rfl rfl) ?_|refine QA ?_|intro x hx hu|intro h|apply sS);all_goals try omega
    refine again (i+1,l) ⟨by omega,hia,by rw[hsu,<-hlF,z8 om]⟩ (by first|omega|(dsimp only;omega)) (ai rfl (ai rfl (ai rfl (ai rfl (ai (QK om) trivial))))) rr (QJT ..)
   |false=>
    rw[if_neg (by simp)]at hsu;(repeat' (conv=>whnf);first|refine AtA.eq (ldR hr rfl rfl) ?_|refine QA ?_|intro x hx hu|intro h|apply sS);all_goals try omega
    refine again (i+1,l++[i]) ⟨by omega,hia,by rw[hsu,<-hlF,z8 (by rw[zu,xc];omega)]⟩ (by first|omega|(dsimp only;omega)) (ai rfl (ai rfl (ai (QFu ?_) (ai rfl (ai (QK om) trivial))))) (ai rfl (ai (Qt rfl (QGM ..)) trivial)) (QJT ..);show _=vN (l++[i]);unfold vN;rw[ye];rfl
  ·have hth:=hst (.inl om);have hq:=hend hth;by_cases hc:L.length=n
   ·have hV:frV L n= .tup [.d (.fs 1 (vI L)),.d (.bl true)]:=if_pos hc;(repeat' (conv=>whnf);first|refine QA ?_|intro x hx hu|intro h|apply sS);all_goals try omega
    all_goals exact(congrArg (λq=>AV.tup [.d (.fs 1 q),.d (.bl true)]) hth).trans hV.symm
   ·have hV:frV L n= .tup [.d (.fs 1 []),.d (.bl false)]:=if_neg hc;(repeat' (conv=>whnf);first|refine QA ?_|intro x hx hu|intro h|apply sS);all_goals try omega
    all_goals exact hV.symm
 ·have hth:=hst (.inr hia);have hq:=hend hth;by_cases hc:L.length=n
  ·have hV:frV L n= .tup [.d (.fs 1 (vI L)),.d (.bl true)]:=if_pos hc;(repeat' (conv=>whnf);first|refine QA ?_|intro x hx hu|intro h|apply sS);all_goals try omega
   all_goals exact(congrArg (λq=>AV.tup [.d (.fs 1 q),.d (.bl true)]) hth).trans hV.symm
  ·have hV:frV L n= .tup [.d (.fs 1 []),.d (.bl false)]:=if_neg hc;(repeat' (conv=>whnf);first|refine QA ?_|intro x hx hu|intro h|apply sS);all_goals try omega
   all_goals exact hV.symm
theorem QTw(last x:List UInt8):(!(Op.bytesLess x last||x==last))=decide (last<x):=by
 by_cases h:last<x
 ·rw [decide_eq_true h];have h1:=(XE last x).2 h;have h2:=QDm _ _ h1;have h3:(x==last)=false:=by
   refine QJu λe=>?_;rw[e]at h;exact JJ _ h
  rw[h2,h3];rfl
 ·rw [decide_eq_false h];have h1:Op.bytesLess last x=false:=by
   cases hb:Op.bytesLess last x with
   |false=>rfl
   |true=>exact absurd ((XE _ _).1 hb) h
  cases h2:Op.bytesLess x last with
  |true=>rfl
  |false=>
   have:=QBc _ _ h2 h1;rw[this];simp
theorem QRw(x y:List UInt8):Op.bytesLess x y=decide (x<y):=by
 cases h:Op.bytesLess x y with
 |true=>exact(decide_eq_true ((XE _ _).1 h)).symm
 |false=>exact(decide_eq_false λq=>by rw[(XE _ _).2 q]at h;cases h).symm
theorem QNs(last:List UInt8)(o:Option (List UInt8))(x:List UInt8):QFN last o x=bif !(Op.bytesLess x last||x==last)then(bif o.isSome then(bif Op.bytesLess x (QEB o)then some x else o)else some x)else o:=by
 rw[QTw];cases o with
 |none=>
  show(if last<x then some x else none)=bif decide (last<x)then some x else none
  by_cases h:last<x
  ·rw [if_pos h,decide_eq_true h];rfl
  ·rw [if_neg h,decide_eq_false h];rfl
 |some y=>
  show(if last<x/\x<y then some x else some y)=bif decide (last<x)then(bif Op.bytesLess x y then some x else some y)else some y
  rw[QRw];by_cases h:last<x
  ·rw [decide_eq_true h];by_cases h2:x<y
   ·rw [if_pos ⟨h,h2⟩,decide_eq_true h2];rfl
   ·rw [if_neg λq=>h2 q.2,decide_eq_false h2];rfl
  ·rw [if_neg λq=>h q.1,decide_eq_false h];rfl
def rlA(m:List (List UInt8))(p:Int)(S0:List (List UInt8))(i:Nat):S:=⟨[(0,.d (Q9 m)),(1,.d (.it .i64 p)),(5,.ts 1 (vS (S0.take i)) 1),(6,.d (.st (Zk S0 i)))],[(1,.tail 9 true)],2⟩
def rlB(m:List (List UInt8))(p:Int)(S0:List (List UInt8))(i:Nat)(o:Option (List UInt8))(k:Nat):S:=⟨[(0,.d (Q9 m)),(1,.d (.it .i64 p)),(5,.ts 1 (vS (S0.take i)) 1),(6,.d (.st (Zk S0 i))),(7,.d (.st (QEB o))),(8,.d (.bl o.isSome)),(9,.d (.it .i64 (k:Nat)))],[(1,.tail 9 true)],2⟩
theorem tsV{a b:List (List D)}(h:a=b):AV.ts 1 a n=AV.ts 1 b n:=by rw[h]
theorem stE{a b:List UInt8}(h:a=b):AV.d (.st a)= .d (.st b):=by rw[h]
theorem blE{a:Bool}(h:a=b):AV.d (.bl a)= .d (.bl b):=by rw[h]
theorem QJU(m:List (List UInt8))(hm:XL m)(p:Int):FnC Tryz.prog 88 [.d (Q9 m),.d (.it .i64 p)] (.d (.fs 1 (vS (nms (imS m) p)))):=by
 have he:=λk=>Zc m hm k;have hs:=λk=>QFT m hm k;have hpk:=QNL (imS m) p;have hS24:=QPE (imS m) p;generalize hS:nms (imS m) p=S0 at hpk hS24⊢;refine QJ i88 ?_;(repeat' (conv=>whnf);first|refine QA ?_|intro x hx hu|intro h|apply sS);conv=>whnf
 refine QT QB (λi:Nat=>i<=S0.length) (rlA m p S0) (λi=>S0.length-i) 0 (z7 _) ⟨ai rfl rr,ai rfl trivial,rfl⟩ ?_;intro i hi;have hpk:=hpk i hi;have hvl:(vS (S0.take i)).length<=i:=by unfold vS;rw[zb];exact List.length_take_le ..
 (repeat' (conv=>whnf);first|refine QA ?_|intro x hx hu|intro h|apply sS);conv=>whnf
 refine QT QB (λk:Nat=>k<=24) (λk=>rlB m p S0 i (XY (imS m) p (Zk S0 i) k) k) (λk=>24-k) 0 (z7 _) ⟨ai rfl rr,ai rfl trivial,rfl⟩ ?_;intro k hk;by_cases hk24:k<24
 ·have hek:=he (k:Nat);have hsk:=hs (k:Nat);have hyes:=QLj (f:=imS m) (p:=p) (last:=Zk S0 i) (k:=k);have hno:=QNK (f:=imS m) (p:=p) (last:=Zk S0 i) (k:=k);by_cases hst:(QG (imS m) k).u=true/\(Qu (imS m) (QG (imS m) k).t).k≠0
  ·rw [decide_eq_true hst]at hsk;by_cases hpp:(QG (imS m) k).p=p
   ·have hyes:=hyes ⟨hst.1,hpp,hst.2⟩;rw[QNs]at hyes;by_cases hg:(!(Op.bytesLess (QG (imS m) (k:Nat)).n (Zk S0 i)||(QG (imS m) (k:Nat)).n==Zk S0 i))=false
    ·rw [hg]at hyes;have hno:XY (imS m) p (Zk S0 i) (k+1)=XY (imS m) p (Zk S0 i) k:=hyes;(repeat' (conv=>whnf);first|refine cEk hek ?_|refine cEk hsk ?_|refine QA ?_|intro x hx hu|intro h|apply sS);refine again (k+1) hk24 (by dsimp only;omega) (ai rfl (ai rfl (ai rfl (ai rfl (ai (stE (congrArg QEB hno.symm)) (ai (blE (congrArg Option.isSome hno.symm)) (ai (QK om) trivial))))))) rr rfl
    ·have hg:=(Bool.not_eq_false _).mp hg;by_cases hio:(XY (imS m) p (Zk S0 i) k).isSome=true
     ·rw [hg,hio]at hyes;by_cases hb:Op.bytesLess (QG (imS m) (k:Nat)).n (QEB (XY (imS m) p (Zk S0 i) k))=true
      ·rw [hb]at hyes;have hye:XY (imS m) p (Zk S0 i) (k+1)=some (QG (imS m) (k:Nat)).n:=hyes;(repeat' (conv=>whnf);first|refine cEk hek ?_|refine cEk hsk ?_|refine QA ?_|intro x hx hu|intro h|apply sS);refine again (k+1) hk24 (by dsimp only;omega) (ai rfl (ai rfl (ai rfl (ai rfl (ai (stE (congrArg QEB hye.symm)) (ai (blE (congrArg Option.isSome hye.symm)) (ai (QK om) trivial))))))) rr rfl
      ·have hb:=Bool.eq_false_iff.2 hb;rw[hb]at hyes;have hno:XY (imS m) p (Zk S0 i) (k+1)=XY (imS m) p (Zk S0 i) k:=hyes;(repeat' (conv=>whnf);first|refine cEk hek ?_|refine cEk hsk ?_|refine QA ?_|intro x hx hu|intro h|apply sS);refine again (k+1) hk24 (by dsimp only;omega) (ai rfl (ai rfl (ai rfl (ai rfl (ai (stE (congrArg QEB hno.symm)) (ai (blE (congrArg Option.isSome hno.symm)) (ai (QK om) trivial))))))) rr rfl
     ·have hio:=Bool.eq_false_iff.2 hio;rw[hg,hio]at hyes;have hye:XY (imS m) p (Zk S0 i) (k+1)=some (QG (imS m) (k:Nat)).n:=hyes;(repeat' (conv=>whnf);first|refine cEk hek ?_|refine cEk hsk ?_|refine QA ?_|intro x hx hu|intro h|apply sS);refine again (k+1) hk24 (by dsimp only;omega) (ai rfl (ai rfl (ai rfl (ai rfl (ai (stE (congrArg QEB hye.symm)) (ai (blE (congrArg Option.isSome hye.symm)) (ai (QK om) trivial))))))) rr rfl
   ·have hno:=hno λq=>hpp q.2.1;(repeat' (conv=>whnf);first|refine cEk hek ?_|refine cEk hsk ?_|refine QA ?_|intro x hx hu|intro h|apply sS);refine again (k+1) hk24 (by dsimp only;omega) (ai rfl (ai rfl (ai rfl (ai rfl (ai (stE (congrArg QEB hno.symm)) (ai (blE (congrArg Option.isSome hno.symm)) (ai (QK om) trivial))))))) rr rfl
  ·rw [decide_eq_false hst]at hsk;have hno:=hno λq=>hst ⟨q.1,q.2.2⟩;(repeat' (conv=>whnf);first|refine cEk hek ?_|refine cEk hsk ?_|refine QA ?_|intro x hx hu|intro h|apply sS);refine again (k+1) hk24 (by dsimp only;omega) (ai rfl (ai rfl (ai rfl (ai rfl (ai (stE (congrArg QEB hno.symm)) (ai (blE (congrArg Option.isSome hno.symm)) (ai (QK om) trivial))))))) rr rfl
 ·have hke:k=24:=by omega
  subst hke;rcases yj i S0.length with hil|hil
  ·obtain ⟨y,hy⟩:=Qo hil;rw[hy]at hpk;have hios:(XY (imS m) p (Zk S0 i) 24).isSome=true:=by rw[hpk];rfl
   have hop:QEB (XY (imS m) p (Zk S0 i) 24)=y:=by rw[hpk];rfl
   have hl1:Zk S0 (i+1)=y:=by show S0.getD i []=y;rw[zr,hy];rfl
   have hv1:vS (S0.take i)++[[.st y]]=vS (S0.take (i+1)):=by rw[QW hy];unfold vS;rw[ye];rfl
   (repeat' (conv=>whnf);first|refine QA ?_|intro x hx hu|intro h|apply sS);refine again (i+1) hil (by dsimp only;omega) (ai rfl (ai rfl (ai (tsV ?_) (ai (stE (hop.trans hl1.symm)) trivial)))) rr rfl;show vS (S0.take i)++[[.st (QEB (XY (imS m) p (Zk S0 i) 24))]]=_;rw[hop];exact hv1
  ·rw [wo hil]at hpk;have hios:(XY (imS m) p (Zk S0 i) 24).isSome=false:=by rw[hpk];rfl
   (repeat' (conv=>whnf);first|refine QA ?_|intro x hx hu|intro h|apply sS);show AV.d (.fs 1 (vS (S0.take i)))=_;rw[z8 hil]
theorem QP2(h:Fd bad d N)(p:List UInt8)(hp:p.length<=100000):
  FnH Tryz.prog 38 [.ptr 0 0,.d (.st p)] (Qp bad d) 1 [0] (.d (.it .i64 (runP bad d (QBn (imS (QS d)) p)).2)) (Qp bad (runP bad d (QBn (imS (QS d)) p)).1) 1:=by
 have hNw:=YI bad d h.ok h.r;have hm:=JO h;have hP:=QAf (QS d) hm p hp;have hk:=QBt (f:=imS (QS d)) (p:=p);have hE:=Zc (QS d) hm (ZS (imS (QS d)) p).1.k;have hK:=Zb (QS d) hm (QG (imS (QS d)) (ZS (imS (QS d)) p).1.k).t;have hL:=QJU (QS d) hm (QG (imS (QS d)) (ZS (imS (QS d)) p).1.k).t;unfold QBn QM3;replace hNw:FnH Tryz.prog 42 [.ptr 0 0] (Qp bad d) 1 [0] (.d (Q9 (QS d))) (Qp bad d) 1:=hNw;generalize ZS (imS (QS d)) p=a at*
 generalize hn:nms (imS (QS d)) (QG (imS (QS d)) a.1.k).t=ns at*
 generalize QG (imS (QS d)) a.1.k=x at*
 generalize Qu (imS (QS d)) x.t=y at*
 generalize Q9 (QS d)=E at*
 obtain⟨⟨fo,nm,k⟩,e⟩:=a;obtain⟨xu,xp,xn,xt⟩:=x;obtain⟨kk,z,b0,b1,b2,b3⟩:=y;dsimp only at*
 replace hE:FnC Tryz.prog 85 [.d E,.d (.it .i64 k)] (.dg 4 [.bl xu,.it .i64 xp,.st xn,.it .i64 xt]):=hE;replace hK:FnC Tryz.prog 86 [.d E,.d (.it .i64 xt)] (.dg 6 [.it .i64 kk,.it .i64 z,.it .i64 b0,.it .i64 b1,.it .i64 b2,.it .i64 b3]):=hK;by_cases c1:e=0
 ·subst c1;rw[if_neg (by simp)];by_cases c2:k<0
  ·rw [if_pos c2,ZA (by decide)];rw[QFa _ _ _ c2]at hP;refine QL i38 λT=>?_;(repeat' (conv=>whnf);first|refine cXk hP ?_|refine CallI.h hNw [0] ?_|refine gD ?_|refine gOI ?_|intro x hx hu|intro h|apply sS);all_goals try omega
   all_goals exact QH
  ·rw [if_neg c2];rw[QEL _ _ _ om]at hP;have g2:=Xn k om ZD fo;have g3:=YY h [⟨17+k,Qh ZD,3,fo,0⟩] (λs hs=>by
    rw[yr.1 hs];exact XZ k om _ _) (by simp)
   obtain⟨s2,e2⟩:=ZO (ZX ZD);replace g3:FnH Tryz.prog 79 [.ptr 0 0,.d (.fs 36 [QR ⟨17+k,Qh ZD,3,fo,0⟩])] (Qp bad d) 1 [0] (.d (.it .i64 (Q4 bad d [.wr ⟨17+k,Qh ZD,3,fo,0⟩]).2)) (Qp bad (Q4 bad d [.wr ⟨17+k,Qh ZD,3,fo,0⟩]).1) 1:=g3;by_cases c3:kk=2
   ·subst c3;cases ns with
    |nil=>
     rw[if_neg (by simp),Z8];generalize Q4 bad d [.wr ⟨17+k,Qh ZD,3,fo,0⟩]=R at*
     rw[e2]at g2 g3;rw[QCy]at g2;replace hL:FnC Tryz.prog 88 [.d E,.d (.it .i64 xt)] (.d (.fs 1 [])):=hL;refine QL i38 λT=>?_;(repeat' (conv=>whnf);first|refine cXk hP ?_|refine cXk hE ?_|refine cXk hK ?_|refine cXk hL ?_|refine cXk g2 ?_|refine CallI.h hNw [0] ?_|refine CallI.hp g3 [0] ?_|refine gD ?_|refine gOI ?_|intro x hx hu|intro h|apply sS);all_goals try omega
     all_goals exact QH
    |cons n0 nt=>
     rw[if_pos ⟨rfl,by simp⟩,ZA (by decide)];have hlen:0<(([D.st n0]::vS nt:List (List D)).length):=by simp
     replace hL:FnC Tryz.prog 88 [.d E,.d (.it .i64 xt)] (.d (.fs 1 ([.st n0]::vS nt))):=hL;refine QL i38 λT=>?_;(repeat' (conv=>whnf);first|refine cXk hP ?_|refine cXk hE ?_|refine cXk hK ?_|refine cXk hL ?_|refine CallI.h hNw [0] ?_|refine gD ?_|refine gOI ?_|intro x hx hu|intro h|apply sS);all_goals try omega
     all_goals exact QH
   ·rw [if_neg (by simp[c3]),Z8];generalize Q4 bad d [.wr ⟨17+k,Qh ZD,3,fo,0⟩]=R at*
    rw[e2]at g2 g3;rw[QCy]at g2;refine QL i38 λT=>?_;(repeat' (conv=>whnf);first|refine cXk hP ?_|refine cXk hE ?_|refine cXk hK ?_|refine cXk g2 ?_|refine CallI.h hNw [0] ?_|refine CallI.hp g3 [0] ?_|refine gD ?_|refine gOI ?_|intro x hx hu|intro h|apply sS);all_goals try omega
    all_goals exact QH
 ·rw [if_pos c1,ZA c1];rw[QKl _ _ c1]at hP;refine QL i38 λT=>?_;(repeat' (conv=>whnf);first|refine cXk hP ?_|refine CallI.h hNw [0] ?_|refine gD ?_|refine gOI ?_|intro x hx hu|intro h|apply sS);all_goals try omega
  all_goals exact QH
theorem QP3(h:Fd bad d N)(p:List UInt8)(hp:p.length<=100000)(tq:Int):
  FnH Tryz.prog 36 [.ptr 0 0,.d (.st p),.d (.it .i64 tq)] (Qp bad d) 1 [0] (.d (.it .i64 (runP bad d (QBl (imS (QS d)) p tq)).2)) (Qp bad (runP bad d (QBl (imS (QS d)) p tq)).1) 1:=by
 have hNw:=YI bad d h.ok h.r;have hm:=JO h;have hP:=QEK (QS d) hm p hp;have hn:=QBJ (imS (QS d)) p;have hz:=QJG (JL (imS (QS d)) p);unfold QBl QPG;replace hNw:FnH Tryz.prog 42 [.ptr 0 0] (Qp bad d) 1 [0] (.d (Q9 (QS d))) (Qp bad d) 1:=hNw;generalize Xv (imS (QS d)) p=q at*
 generalize Q9 (QS d)=E at*
 obtain⟨n,⟨k,z,b0,b1,b2,b3⟩,e⟩:=q;dsimp only at*
 replace hP:FnC Tryz.prog 81 [.d E,.d (.st p)] (.tup [.d (.it .i64 n),.dg 6 [.it .i64 k,.it .i64 z,.it .i64 b0,.it .i64 b1,.it .i64 b2,.it .i64 b3],.d (.it .i64 e)]):=hP;by_cases c1:e=0
 ·subst c1;rw[if_neg (by simp)];by_cases c2:tq<0\/z<tq
  ·rw [if_pos c2,ZA (by decide)];refine QL i36 λT=>?_;(repeat' (conv=>whnf);first|refine cXk hP ?_|refine CallI.h hNw [0] ?_|refine gD ?_|refine gOI ?_|intro x hx hu|intro h|apply sS);all_goals try omega
   all_goals exact QH
  ·rw [if_neg c2];by_cases c3:tq=z
   ·subst c3;rw[if_pos rfl,Z8];refine QL i36 λT=>?_;(repeat' (conv=>whnf);first|refine cXk hP ?_|refine CallI.h hNw [0] ?_|refine gD ?_|refine gOI ?_|intro x hx hu|intro h|apply sS);all_goals try omega
    all_goals exact QH
   ·rw [if_neg c3,Z8];have hnd:=Jo tq om om;have c4:(tq+31)/32=0\/(tq+31)/32=1\/(tq+31)/32=2\/(tq+31)/32=3\/(tq+31)/32=4:=by omega
    rcases c4 with c4|c4|c4|c4|c4;all_goals (
     have g2:=QEI n om (trI ⟨k,z,b0,b1,b2,b3⟩ tq) 2 n;have g3:=YY h [⟨1+n,Z7 (trI ⟨k,z,b0,b1,b2,b3⟩ tq),2,n,0⟩] (λs hs=>by
      rw[yr.1 hs];exact QED n om _ _ _) (by simp)
     obtain⟨s2,e2⟩:=ZO (Xl (trI ⟨k,z,b0,b1,b2,b3⟩ tq));replace g3:FnH Tryz.prog 79 [.ptr 0 0,.d (.fs 36 [QR ⟨1+n,Z7 (trI ⟨k,z,b0,b1,b2,b3⟩ tq),2,n,0⟩])] (Qp bad d) 1 [0] (.d (.it .i64 (Q4 bad d [.wr ⟨1+n,Z7 (trI ⟨k,z,b0,b1,b2,b3⟩ tq),2,n,0⟩]).2)) (Qp bad (Q4 bad d [.wr ⟨1+n,Z7 (trI ⟨k,z,b0,b1,b2,b3⟩ tq),2,n,0⟩]).1) 1:=g3;generalize Q4 bad d [.wr ⟨1+n,Z7 (trI ⟨k,z,b0,b1,b2,b3⟩ tq),2,n,0⟩]=R at*
     rw[e2]at g2 g3;rw[c4]at hnd;unfold trI nd at g2;rw[c4]at g2;refine QL i36 λT=>?_;(repeat' (conv=>whnf);first|refine cEk hP ?_|refine cEk hnd ?_|refine cXk g2 ?_|refine CallI.h hNw [0] ?_|refine CallI.hp g3 [0] ?_|with_reducible refine Q7.unroll QB 5 ?_|refine gD ?_|refine gOI ?_|intro x hx hu|intro h|apply sS);all_goals try omega
     all_goals exact QH)
 ·rw [if_pos c1,ZA c1];refine QL i36 λT=>?_;(repeat' (conv=>whnf);first|refine cXk hP ?_|refine CallI.h hNw [0] ?_|refine gD ?_|refine gOI ?_|intro x hx hu|intro h|apply sS);all_goals try omega
  all_goals exact QH
end Go.Proofs.YtikgcbioagmkkaaGreatDoor
