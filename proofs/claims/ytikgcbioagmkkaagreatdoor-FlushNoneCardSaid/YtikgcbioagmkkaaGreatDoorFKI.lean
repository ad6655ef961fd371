/- Contracts of the functions that the law reaches, and the law. Conditions: none. -/
import Derived.Test.YtikgcbioagmkkaaGreatDoorFKH
import Derived.Test.YtikgcbioagmkkaaGreatDoorFKE
import Derived.Test.YtikgcbioagmkkaaGreatDoorFKK
import Derived.Test.YtikgcbioagmkkaaGreatDoorFKD
import Derived.Test.YtikgcbioagmkkaaGreatDoorFKF
import Derived.Test.YtikgcbioagmkkaaGreatDoorFSE
set_option maxRecDepth 100000
set_option linter.all false
set_option maxHeartbeats 16000000
namespace Go.Proofs.YtikgcbioagmkkaaGreatDoor
open Go.Sy
structure Act where
 k:Int
 p:List UInt8
 q:List UInt8
 n:Int
 b:List UInt8
 bad:List Int
def QBO(a:Act):List D:=[.it .i64 a.k,.st a.p,.st a.q,.it .i64 a.n,.fs 1 (QE a.b),.fs 1 (vI a.bad)]
structure QF1(a:Act):Prop where
 p:a.p.length≤100
 q:a.q.length≤100
 b:a.b.length≤300
 bad:a.bad.length≤30
def QHT(f:Int→List UInt8)(a:Act):Pln:=
 if a.k=0 then mkP f a.p 1 else if a.k=1 then mkP f a.p 2 else if a.k=2 then QFo f a.p a.n a.b else if a.k=3 then QFp f a.p a.b else
 if a.k=4 then QHJ f a.p a.n else if a.k=5 then QHL f a.p a.q else if a.k=6 then QHM f a.p else(0,[])
theorem QDq{b:Bool}{bad:List Int}{d:Dk}{N:Nat}(h:Fd bad d N)(p:List UInt8)(hp:p.length≤100000):
  FnH Tryz.prog 47 [.ptr 5 0,.d (.st p)] (QZ b bad d) 6 [0,5] (.d (.it .i64 (runP bad d (mkP (rdS (some d)) p 1)).2)) (QZ b bad (runP bad d (mkP (rdS (some d)) p 1)).1) 6:=by
 have h1:=QIW (b:=b) h p hp 1
 generalize runP bad d (mkP (rdS (some d)) p 1)=R at*
 refine QR i47 fun T=>?_
 (repeat' ((conv=>whnf);first|refine CallE.inl ?_|refine CallI.h h1 [0,1,2,3,4,5] ?_|refine QB ?_|intro x hx hu|intro h|refine Spp.mk ?_ ?_))
 exact QJ
theorem QLH{b:Bool}{bad:List Int}{d:Dk}{N:Nat}(h:Fd bad d N)(p:List UInt8)(hp:p.length≤100000):
  FnH Tryz.prog 89 [.ptr 5 0,.d (.st p)] (QZ b bad d) 6 [0,5] (.d (.it .i64 (runP bad d (mkP (rdS (some d)) p 2)).2)) (QZ b bad (runP bad d (mkP (rdS (some d)) p 2)).1) 6:=by
 have h1:=QIW (b:=b) h p hp 2
 generalize runP bad d (mkP (rdS (some d)) p 2)=R at*
 refine QR i89 fun T=>?_
 (repeat' ((conv=>whnf);first|refine CallE.inl ?_|refine CallI.h h1 [0,1,2,3,4,5] ?_|refine QB ?_|intro x hx hu|intro h|refine Spp.mk ?_ ?_))
 exact QJ
theorem QMr{b:Bool}{bad:List Int}{d:Dk}{N:Nat}(h:Fd bad d N)(a:Act)(ha:QF1 a)(h7:a.k≠7):
  FnH Tryz.prog 40 [.ptr 5 0,.dg 6 (QBO a)] (QZ b bad d) 6 [0,5] (.d (.it .i64 (runP bad d (QHT (rdS (some d)) a)).2)) (QZ b bad (runP bad d (QHT (rdS (some d)) a)).1) 6:=by
 have hap:=ha.p
 have haq:=ha.q
 have hab:=ha.b
 unfold QHT
 obtain⟨k,p,q,n,bb,ba⟩:=a
 dsimp only at*
 have g0:=QDq (b:=b) h p (by omega)
 have g1:=QLH (b:=b) h p (by omega)
 have g2:=QLB (b:=b) h p (by omega) n bb (by omega)
 have g3:=QDp (b:=b) h p (by omega) bb (by omega)
 have g4:=QK7 (b:=b) h p (by omega) n
 have g5:=QJh (b:=b) h p q (by omega) (by omega)
 have g6:=QJe (b:=b) h p (by omega)
 show FnH _ _ [.ptr 5 0,.dg 6 [.it .i64 k,.st p,.st q,.it .i64 n,.fs 1 (QE bb),.fs 1 (vI ba)]] _ _ _ _ _ _
 by_cases c0:k=0
 ·subst c0
  rw[if_pos rfl]
  generalize runP bad d (mkP (rdS (some d)) p 1)=R at*
  refine QR i40 fun T=>?_
  (repeat' ((conv=>whnf);first|refine CallE.inl ?_|refine CallI.h g0 [0,1,2,3,4,5] ?_|refine QB ?_|intro x hx hu|intro h|refine Spp.mk ?_ ?_))
  exact QJ
 ·rw [if_neg c0]
  by_cases c1:k=1
  ·subst c1
   rw[if_pos rfl]
   generalize runP bad d (mkP (rdS (some d)) p 2)=R at*
   refine QR i40 fun T=>?_
   (repeat' ((conv=>whnf);first|refine CallE.inl ?_|refine CallI.h g1 [0,1,2,3,4,5] ?_|refine QB ?_|intro x hx hu|intro h|refine Spp.mk ?_ ?_))
   exact QJ
  ·rw [if_neg c1]
   by_cases c2:k=2
   ·subst c2
    rw[if_pos rfl]
    generalize runP bad d (QFo (rdS (some d)) p n bb)=R at*
    refine QR i40 fun T=>?_
    (repeat' ((conv=>whnf);first|refine CallE.inl ?_|refine CallI.h g2 [0,1,2,3,4,5] ?_|refine QB ?_|intro x hx hu|intro h|refine Spp.mk ?_ ?_))
    exact QJ
   ·rw [if_neg c2]
    by_cases c3:k=3
    ·subst c3
     rw[if_pos rfl]
     generalize runP bad d (QFp (rdS (some d)) p bb)=R at*
     refine QR i40 fun T=>?_
     (repeat' ((conv=>whnf);first|refine CallE.inl ?_|refine CallI.h g3 [0,1,2,3,4,5] ?_|refine QB ?_|intro x hx hu|intro h|refine Spp.mk ?_ ?_))
     exact QJ
    ·rw [if_neg c3]
     by_cases c4:k=4
     ·subst c4
      rw[if_pos rfl]
      generalize runP bad d (QHJ (rdS (some d)) p n)=R at*
      refine QR i40 fun T=>?_
      (repeat' ((conv=>whnf);first|refine CallE.inl ?_|refine CallI.h g4 [0,1,2,3,4,5] ?_|refine QB ?_|intro x hx hu|intro h|refine Spp.mk ?_ ?_))
      exact QJ
     ·rw [if_neg c4]
      by_cases c5:k=5
      ·subst c5
       rw[if_pos rfl]
       generalize runP bad d (QHL (rdS (some d)) p q)=R at*
       refine QR i40 fun T=>?_
       (repeat' ((conv=>whnf);first|refine CallE.inl ?_|refine CallI.h g5 [0,1,2,3,4,5] ?_|refine QB ?_|intro x hx hu|intro h|refine Spp.mk ?_ ?_))
       exact QJ
      ·rw [if_neg c5]
       by_cases c6:k=6
       ·subst c6
        rw[if_pos rfl]
        generalize runP bad d (QHM (rdS (some d)) p)=R at*
        refine QR i40 fun T=>?_
        (repeat' ((conv=>whnf);first|refine CallE.inl ?_|refine CallI.h g6 [0,1,2,3,4,5] ?_|refine QB ?_|intro x hx hu|intro h|refine Spp.mk ?_ ?_))
        exact QJ
       ·rw [if_neg c6,JE]
        refine QR i40 fun T=>?_
        (repeat' ((conv=>whnf);first|refine CallE.inl ?_|refine QB ?_|intro x hx hu|intro h|refine Spp.mk ?_ ?_))
        exact QJ
theorem QMs{P:Program}{ti:Nat→Option Ty}{N:Nat}{ops:List Oper}{σ:S}{K:S→Prop}(h:QX P ti N 17 ops σ K):QX P ti N 17 ops σ K:=h
theorem QMt{N:Nat}{σ τ:S}(h:Wk N σ τ):Wk N σ τ:=h
def d7S(ba:List Int)(d:Dk)(T:Nat→Nat):S:=⟨[(0,.ptr 5 0)],QZ true ba (z0f d)++Qn 6 [0,5] T,40⟩
theorem QOa{b:Bool}{bad:List Int}{d:Dk}{N:Nat}(h:Fd bad d N)(a:Act)(ha:QF1 a)(h7:a.k=7):
  FnH Tryz.prog 40 [.ptr 5 0,.dg 6 (QBO a)] (QZ b bad d) 6 [0,5] (.d (.it .i64 0)) (QZ true a.bad (z0f d)) 6:=by
 have hF:=QLU b bad a.bad d (by have:=h.n;omega) (by have:=ha.bad;omega)
 obtain⟨k,p,q,n,bb,ba⟩:=a
 dsimp only at*
 subst h7
 show FnH _ _ [.ptr 5 0,.dg 6 [.it .i64 7,.st p,.st q,.it .i64 n,.fs 1 (QE bb),.fs 1 (vI ba)]] _ _ _ _ _ _
 refine QR i40 fun T=>?_
 (repeat' ((conv=>whnf);first|refine CallE.inl ?_|((with_reducible refine QMs ?_);refine QX.mid (d7S ba d T) (QBD QA mixed [0] (by decide+kernel) ?_) ?_)|((with_reducible refine QMt ?_);exact Wk.ren (fun k=>bif Nat.beq k 3 then 19 else k) (ai rfl trivial) (ai rfl (ai rfl (ai rfl (ai rfl (ai rfl (ai rfl (ai rfl (ai rfl (ai rfl trivial))))))))) rfl rfl)|with_reducible exact trivial|with_reducible refine Br.mk ?_ ?_|with_reducible refine CallI.inl QA i11 rfl ?_|with_reducible refine CallI.inl QA i50 rfl ?_|refine CallI.h hF [0,1,2,3,4] ?_|refine QB ?_|intro x hx hu|intro h|refine Spp.mk ?_ ?_))
 all_goals first|(exfalso;omega)|skip
 exact QJ
def QCA(x:Pln):Prop:=(∀s∈x.2,QFs s)∧x.2.length≤5
theorem J2(e:Int):QCA (e,[]):=⟨fun s hs=>(by cases hs),yf _⟩
theorem QOb{e:Int}{s:Stp}(h:QFs s):QCA (e,[s]):=⟨fun x hx=>(by rw[xm.1 hx];exact h),(by show 1≤5;omega)⟩
theorem QLI(f:Int→List UInt8)(p:List UInt8)(kind:Int):QCA (mkP f p kind):=by
 unfold mkP mkQ
 split
 ·exact J2 _
 ·split
  ·exact J2 _
  ·split
   ·rename_i n k h1 h2
    have hn:=QK4 h1
    have hk:=QEe h2
    refine⟨fun s hs=>?_,by show 2≤5;omega⟩
    simp only[zi,y6,or_false]at hs
    rcases hs with rfl|rfl
    ·exact QF0 (n:Nat) (by omega) _ _ _
    ·exact QAl (k:Nat) (by omega) _ _
   ·exact J2 _
theorem QMu(f:Int→List UInt8)(n:Int)(hn:0≤n∧n<16)(x:Ino)(hx:RI x)(off:Int)(c:List UInt8):QCA (QFn f n x off c):=by
 unfold QFn
 split
 ·exact J2 _
 ·split
  ·exact J2 _
  ·split
   ·exact J2 _
   ·have hfr:∀j∈frB f (nd (max x.z (off+c.length))-nd x.z),1≤j∧j≤24:=fun j hj=>QEk hj
    generalize frB f (nd (max x.z (off+c.length))-nd x.z)=fr at*
    have hyb:=fun i=>QIe hx hfr (max x.z (off+c.length)) (had:=nd x.z) i
    generalize JI x (max x.z (off+c.length)) (nd x.z) fr=y at*
    have h1:=QIf (f:=f) (n:=n) (x:=x) (y:=y) (had:=nd x.z) (off:=off) (b:=c) (k:=4) hyb
    have h2:= @QCp f n x y (nd x.z) off c 4
    refine⟨fun s hs=>?_,?_⟩
    ·rcases ye.1 hs with hs|hs
     ·exact h1 s hs
     ·split at hs
      ·cases hs
      ·rw [xm.1 hs];exact QF0 n hn _ _ _
    ·show ((_:List Stp)++(_:List Stp)).length≤5
     rw[zt]
     split
     ·simp only[xf];omega
     ·simp only[xb];omega
theorem QIX(f:Int→List UInt8)(p:List UInt8)(off:Int)(c:List UInt8):QCA (QFo f p off c):=by
 unfold QFo QKo
 split
 ·exact J2 _
 ·exact QMu f _ (QCm f p) _ (QCJ f p) _ _
theorem QIY(f:Int→List UInt8)(p:List UInt8)(c:List UInt8):QCA (QFp f p c):=QIX f p _ c
theorem QMv(f:Int→List UInt8)(p:List UInt8)(tz:Int):QCA (QHJ f p tz):=by
 unfold QHJ QOK
 split
 ·exact J2 _
 ·split
  ·exact J2 _
  ·split
   ·exact J2 _
   ·exact QOb (QF0 _ (QCm f p) _ _ _)
theorem QMw(f:Int→List UInt8)(p:List UInt8):QCA (QHM f p):=by
 have hk:=QDo (f:=f) (p:=p)
 unfold QHM QOM
 split
 ·exact J2 _
 ·split
  ·exact J2 _
  ·split
   ·exact J2 _
   ·exact QOb (QAl _ (by omega) _ _)
theorem QMx(f:Int→List UInt8)(a b:Plc)(x:Ent)(ha:0≤a.k∧a.k<24)(hb:b.k<24):QCA (QJU f a b x):=by
 unfold QJU
 split
 ·exact QOb (QAl _ ha _ _)
 ·split
  ·exact J2 _
  ·rename_i k hk
   have h:0≤((k:Nat):Int)∧((k:Nat):Int)<24:=by
    split at hk
    ·have:=QEe hk;omega
    ·have:=za hk;omega
   refine⟨fun s hs=>?_,by show 3≤5;omega⟩
   simp only[zi,y6,or_false]at hs
   rcases hs with rfl|rfl|rfl
   ·exact QAl _ h _ _
   ·trivial
   ·exact QAl _ ha _ _
theorem QMy(f:Int→List UInt8)(p q:List UInt8):QCA (QHL f p q):=by
 have ka:=QDo (f:=f) (p:=p)
 have kb:=QDo (f:=f) (p:=q)
 unfold QHL QOL
 repeat' split
 all_goals first|exact J2 _|exact QMx f _ _ _ (by omega) (by omega)
theorem QMz(f:Int→List UInt8)(a:Act):QCA (QHT f a):=by
 unfold QHT
 repeat' split
 all_goals first|exact QLI .. |exact QIX .. |exact QIY .. |exact QMv .. |exact QMy .. |exact QMw .. |exact J2 _
theorem Fd.runP{bad:List Int}{d:Dk}{N:Nat}(h:Fd bad d N){x:Pln}(hx:QCA x)(hM:N+5≤90000):Fd bad (Go.Proofs.YtikgcbioagmkkaaGreatDoor.runP bad d x).1 (N+5):=by
 unfold Go.Proofs.YtikgcbioagmkkaaGreatDoor.runP
 split
 ·exact h.mono (by omega) hM
 ·exact (Fd.run x.2 h (by have:=hx.2;omega) hx.1).mono (by have:=hx.2;omega) hM
theorem Fd.z0f{bad:List Int}{d:Dk}{N:Nat}(h:Fd bad d N){bad':List Int}(hb:bad'.length≤1000000):Fd bad' (Go.Proofs.YtikgcbioagmkkaaGreatDoor.z0f d) N:=
 ⟨h.s,h.w,h.r,⟨⟨Wj _,(by show(0:Int)≤N;omega)⟩,h.b.w,h.b.l,h.b.s,h.b.s0⟩,h.n,hb,h.ep,h.lg,h.hN⟩
theorem Fd.dk0{l:List (List UInt8)}(hl:QEV l)(hn:l.length=65):Fd [] (Go.Proofs.YtikgcbioagmkkaaGreatDoor.dk0 l) 0:=
 ⟨hl,fun w hw=>(by cases hw),fun w hw=>(by cases hw),⟨⟨Wj _,Wj _⟩,zr _,zr _,(by show l.length≤65;omega),(by show l.length≠0;omega)⟩,hn,yf _,⟨(by show-((0:Nat):Int)≤0;omega),(by show(0:Int)≤((0:Nat):Int);omega)⟩,⟨[],rfl,fun e he=>(by cases he)⟩,by decide⟩
def kA:List UInt8:=[47,97]
def kX:List UInt8:=[120,121]
def k0:Dk:=dk0 Y0
def k1:Dk:=(runP [] k0 (mkP (rdS (some k0)) kA 1)).1
def k2:Dk:=(runP [] k1 (QFo (rdS (some k1)) kA 0 kX)).1
theorem QRi:(runP [] k0 (mkP (rdS (some k0)) kA 1)).2=0:=by decide+kernel
def doR(bad:List Int)(d:Dk)(a:Act):Dk×Int:=
 if a.k=8 then synP bad d a.p 1 [1,2]else if a.k=9 then synP bad d a.p 1 [1]else if a.k=10 then synP bad d a.p 2 [3,2]else if a.k=11 then barP bad d else runP bad d (QHT (rdS (some d)) a)
theorem Fd.doR{bad:List Int}{d:Dk}{N:Nat}(h:Fd bad d N)(a:Act)(hM:N+5≤90000):Fd bad (Go.Proofs.YtikgcbioagmkkaaGreatDoor.doR bad d a).1 (N+5):=by
 unfold Go.Proofs.YtikgcbioagmkkaaGreatDoor.doR
 repeat' split
 ·exact (h.synP _ _ _ (by simp) (by omega)).mono (by omega) hM
 ·exact (h.synP _ _ _ (by simp) (by omega)).mono (by omega) hM
 ·exact (h.synP _ _ _ (by simp) (by omega)).mono (by omega) hM
 ·exact (h.barP (by omega)).mono (by omega) hM
 ·exact h.runP (QMz ..) hM
theorem QM0{b:Bool}{bad:List Int}{d:Dk}{N:Nat}(h:Fd bad d N)(a:Act)(ha:QF1 a)(h7:a.k≠7):
  FnH Tryz.prog 10 [.ptr 5 0,.dg 6 (QBO a)] (QZ b bad d) 6 [0,5] (.d (.it .i64 (doR bad d a).2)) (QZ b bad (doR bad d a).1) 6:=by
 have hap:=ha.p
 have h8:=QCn (b:=b) h a.p (by omega)
 have h9:=QLF (b:=b) h a.p (by omega)
 have h10:=QEg (b:=b) h a.p (by omega)
 have h11:=QMq (b:=b) h
 have hD:=QMr (b:=b) h a ha h7
 unfold doR
 generalize runP bad d (QHT (rdS (some d)) a)=R at*
 generalize synP bad d a.p 1 [1,2]=R8 at*
 generalize synP bad d a.p 1 [1]=R9 at*
 generalize synP bad d a.p 2 [3,2]=R10 at*
 generalize barP bad d=R11 at*
 obtain⟨k,p,q,n,bb,ba⟩:=a
 dsimp only at*
 replace hD:FnH Tryz.prog 40 [.ptr 5 0,.dg 6 [.it .i64 k,.st p,.st q,.it .i64 n,.fs 1 (QE bb),.fs 1 (vI ba)]] (QZ b bad d) 6 [0,5] (.d (.it .i64 R.2)) (QZ b bad R.1) 6:=hD
 show FnH _ _ [.ptr 5 0,.dg 6 [.it .i64 k,.st p,.st q,.it .i64 n,.fs 1 (QE bb),.fs 1 (vI ba)]] _ _ _ _ _ _
 by_cases c8:k=8
 ·subst c8
  rw[if_pos rfl]
  refine QR i10 fun T=>?_
  (repeat' ((conv=>whnf);first|refine CallE.inl ?_|refine CallI.h h8 [0,1,2,3,4,5] ?_|refine QB ?_|intro x hx hu|intro h|refine Spp.mk ?_ ?_))
  exact QJ
 rw[if_neg c8]
 by_cases c9:k=9
 ·subst c9
  rw[if_pos rfl]
  refine QR i10 fun T=>?_
  (repeat' ((conv=>whnf);first|refine CallE.inl ?_|refine CallI.h h9 [0,1,2,3,4,5] ?_|refine QB ?_|intro x hx hu|intro h|refine Spp.mk ?_ ?_))
  exact QJ
 rw[if_neg c9]
 by_cases c10:k=10
 ·subst c10
  rw[if_pos rfl]
  refine QR i10 fun T=>?_
  (repeat' ((conv=>whnf);first|refine CallE.inl ?_|refine CallI.h h10 [0,1,2,3,4,5] ?_|refine QB ?_|intro x hx hu|intro h|refine Spp.mk ?_ ?_))
  exact QJ
 rw[if_neg c10]
 by_cases c11:k=11
 ·subst c11
  rw[if_pos rfl]
  refine QR i10 fun T=>?_
  (repeat' ((conv=>whnf);first|refine CallE.inl ?_|refine CallI.h h11 [0,1,2,3,4,5] ?_|refine QB ?_|intro x hx hu|intro h|refine Spp.mk ?_ ?_))
  exact QJ
 rw[if_neg c11]
 refine QR i10 fun T=>?_
 (repeat' ((conv=>whnf);first|refine CallE.inl ?_|refine CallI.h hD [0,1,2,3,4,5] ?_|refine QB ?_|intro x hx hu|intro h|refine Spp.mk ?_ ?_))
 all_goals first|(exfalso;omega)|skip
 exact QJ
theorem QOc{b:Bool}{bad:List Int}{d:Dk}{N:Nat}(h:Fd bad d N)(a:Act)(ha:QF1 a)(h7:a.k=7):
  FnH Tryz.prog 10 [.ptr 5 0,.dg 6 (QBO a)] (QZ b bad d) 6 [0,5] (.d (.it .i64 0)) (QZ true a.bad (z0f d)) 6:=by
 have hD:=QOa (b:=b) h a ha h7
 obtain⟨k,p,q,n,bb,ba⟩:=a
 dsimp only at*
 subst h7
 replace hD:FnH Tryz.prog 40 [.ptr 5 0,.dg 6 [.it .i64 7,.st p,.st q,.it .i64 n,.fs 1 (QE bb),.fs 1 (vI ba)]] (QZ b bad d) 6 [0,5] (.d (.it .i64 0)) (QZ true ba (z0f d)) 6:=hD
 show FnH _ _ [.ptr 5 0,.dg 6 [.it .i64 7,.st p,.st q,.it .i64 n,.fs 1 (QE bb),.fs 1 (vI ba)]] _ _ _ _ _ _
 refine QR i10 fun T=>?_
 (repeat' ((conv=>whnf);first|refine CallE.inl ?_|refine CallI.h hD [0,1,2,3,4,5] ?_|refine QB ?_|intro x hx hu|intro h|refine Spp.mk ?_ ?_))
 exact QJ
theorem QLJ{b:Bool}{bad:List Int}{d:Dk}{N:Nat}(h:Fd bad d N)(hw0:d.wait≠[]):FnH Tryz.prog 16 [.ptr 0 0] (Z6 b bad d) 5 [0] (.d (.fs 36 (d.wait.map Qx))) (Z6 b bad d) 5:=by
 have hn:FnC Tryz.prog 57 [.d (QS (some d))] (.d (.bl false)):=by
  have:=Jg (some d)
  rw[show QBp (some d)=false from decide_eq_false h.b.s0]at this
  exact this
 have hne:(d.wait.map Qx).isEmpty=false:=by
  cases hw:d.wait with
  |nil=>exact absurd hw hw0
  |cons=>rfl
 have hwl:(d.wait.map Qx).length≤90000:=by rw[ze];have:=h.b.w;have:=h.hN;omega
 have hwl2:d.wait.length≤90000:=by have:=h.b.w;have:=h.hN;omega
 refine QR i16 fun T=>?_
 (repeat' ((conv=>whnf);first|refine CallE.inl ?_|with_reducible refine Spl.no hne ?_|refine rFd hn ?_|with_reducible refine CallI.inl QA i58 rfl ?_|refine QB ?_|intro x hx hu|intro h|refine Spp.mk ?_ ?_))
 all_goals first|(exfalso;omega)|skip
 refine⟨⟨[(2,.d (.fs 36 (d.wait.map Qx)))],Z6 b bad d++Qn 5 [0] T,30⟩,Wk.vwL (ai (Vw.ts' rfl) trivial) (ai (VwO.same _) (ai (VwO.same _) (ai (VwO.same _) (ai (VwO.same _) (ai (VwO.same _) (ai (VwO.same _) (ai (VwO.same _) trivial))))))) rfl,rfl,(ai rfl (ai rfl (ai rfl (ai rfl (ai rfl trivial))))),(ai rfl (ai rfl trivial))⟩
theorem QJi{b:Bool}{bad:List Int}{d:Dk}{N:Nat}(h:Fd bad d N)(hl:d.wait=[]):FnH Tryz.prog 16 [.ptr 0 0] (Z6 b bad d) 5 [0] (.d (.fs 36 [])) (Z6 b bad d) 5:=by
 have hn:FnC Tryz.prog 57 [.d (QS (some d))] (.d (.bl false)):=by
  have:=Jg (some d)
  rw[show QBp (some d)=false from decide_eq_false h.b.s0]at this
  exact this
 obtain⟨nx,sf,wt,lg,ep⟩:=d
 dsimp only at hl
 subst hl
 refine QR i16 fun T=>?_
 (repeat' ((conv=>whnf);first|refine CallE.inl ?_|refine rFk hn ?_|with_reducible refine CallI.inl QA i58 rfl ?_|refine QB ?_|intro x hx hu|intro h|refine Spp.mk ?_ ?_))
 all_goals first|(exfalso;omega)|skip
 all_goals (
  first
  |exact⟨⟨[(2,.d (.fs 36 []))],Z6 b bad ⟨nx,sf,[],lg,ep⟩++Qn 5 [0] T,40⟩,Wk.vwL (ai (Vw.ts' rfl) trivial) (ai (VwO.same _) (ai (VwO.same _) (ai (VwO.same _) (ai (VwO.same _) (ai (VwO.same _) (ai (VwO.same _) (ai (VwO.same _) trivial))))))) rfl,rfl,(ai rfl (ai rfl (ai rfl (ai rfl (ai rfl trivial))))),(ai rfl (ai rfl trivial))⟩
  |exact⟨⟨[(2,.d (.fs 36 []))],Z6 b bad ⟨nx,sf,[],lg,ep⟩++Qn 5 [0] T,40⟩,Wk.vwL (ai (Vw.eq rfl) trivial) (ai (VwO.same _) (ai (VwO.same _) (ai (VwO.same _) (ai (VwO.same _) (ai (VwO.same _) (ai (VwO.same _) (ai (VwO.same _) trivial))))))) rfl,rfl,(ai rfl (ai rfl (ai rfl (ai rfl (ai rfl trivial))))),(ai rfl (ai rfl trivial))⟩)
theorem QF2{b:Bool}{bad:List Int}{d:Dk}{N:Nat}(h:Fd bad d N):FnH Tryz.prog 16 [.ptr 0 0] (Z6 b bad d) 5 [0] (.d (.fs 36 (d.wait.map Qx))) (Z6 b bad d) 5:=by
 by_cases hw:d.wait=[]
 ·have:=QJi (b:=b) h hw
  rw[hw];exact this
 ·exact QLJ h hw
def QEh(l:List Wr)(n:Int):Nat:=(l.filter fun w=>decide (w.i=n)).length
def wtA(b:Bool)(bad:List Int)(d:Dk)(T:Nat→Nat)(n:Int)(k:Nat):S:=⟨[(7,.d (.it .i64 n)),(9,.d (.it .i64 (QEh (d.wait.take k) n:Nat))),(26,.d (.fs 36 (d.wait.map Qx))),(27,.d (.it .i64 (d.wait.length:Nat))),(28,.d (.it .i64 (k:Nat)))],QZ b bad d++Qn 6 [0,5] T,9⟩
theorem QLK{b:Bool}{bad:List Int}{d:Dk}{N:Nat}(h:Fd bad d N)(p:List UInt8)(hp:p.length≤100000):
  FnH Tryz.prog 21 [.ptr 5 0,.d (.st p)] (QZ b bad d) 6 [0,5] (.tup [.d (.it .i64 (QLE d p).1),.d (.it .i64 (QLE d p).2)]) (QZ b bad d) 6:=by
 have hL:=X5 (some d) h.ok p hp
 have hW:=QF2 (b:=b) h
 have hwl:(d.wait.map Qx).length=d.wait.length:=ze ..
 have hwb:=h.b.w
 have hN:=h.hN
 have hA:QLE d p=if(Qa (rdS (some d)) p).2≠0 then(0,(Qa (rdS (some d)) p).2)else((((d.wait.filter fun w=>decide (w.i=(Qa (rdS (some d)) p).1)).length:Nat):Int),0):=rfl
 generalize QLE d p=R at*
 generalize Qa (rdS (some d)) p=q at*
 obtain⟨n,e⟩:=q
 dsimp only at hA hL
 by_cases c1:e=0
 ·subst c1
  rw[if_neg (by decide)]at hA
  subst hA
  refine QR i21 fun T=>?_
  (repeat' ((conv=>whnf);first|refine CallE.inl ?_|refine rFk hL ?_|refine rFk hL ?_|refine CallI.h hW [0,1,2,3,4] ?_|with_reducible refine CallI.inl QA i11 rfl ?_|with_reducible refine CallI.inl QA i50 rfl ?_|refine QB ?_|intro x hx hu|intro h|refine Spp.mk ?_ ?_))
  all_goals first|(exfalso;omega)|skip
  conv=>whnf
  refine Qs QA (fun k:Nat=>k≤d.wait.length) (wtA b bad d T n) (fun k=>d.wait.length-k) 0 (yf _) (Wk.en ⟨ai rfl (ai rfl (ai rfl (ai (QW (by rw[hwl])) (ai rfl trivial)))),(ai rfl (ai rfl (ai rfl (ai rfl (ai rfl (ai rfl (ai rfl (ai rfl (ai rfl trivial))))))))),rfl⟩) ?_
  intro k hk
  by_cases hkl:k<d.wait.length
  ·obtain ⟨w,hx⟩:=ZD hkl
   have hws:=h.w w (yi hx)
   have hc:QEh (d.wait.take (k+1)) n=QEh (d.wait.take k) n+if w.i=n then 1 else 0:=by
    unfold QEh
    rw[Q3 hx,vr,zt]
    congr 1
    by_cases hwn:w.i=n
    ·simp [hwn]
    ·simp [hwn]
   have hcl:QEh (d.wait.take k) n≤k:=by
    unfold QEh
    refine xj (ur ..) ?_
    rw[z2];omega
   have hto:∀ {N:Nat} {σ:S} {c:Nat},QEh (d.wait.take (k+1)) n=c→Wk N σ ⟨[(7,.d (.it .i64 n)),(9,.d (.it .i64 (c:Nat))),(26,.d (.fs 36 (d.wait.map Qx))),(27,.d (.it .i64 (d.wait.length:Nat))),(28,.d (.it .i64 ((k+1:Nat):Int)))],QZ b bad d++Qn 6 [0,5] T,9⟩→Wk N σ (wtA b bad d T n (k+1)):=fun h q=>by unfold wtA;rw[h];exact q
   unfold wtA
   generalize QEh (d.wait.take k) n=c at*
   obtain⟨wa,wS,wk,wi,we⟩:=w
   obtain⟨g,rfl⟩:=Xy hws
   dsimp only at hc
   by_cases hwn:wi=n
   ·subst hwn
    rw[if_pos rfl]at hc
    (repeat' ((conv=>whnf);first|with_reducible refine ZY hx ?_|with_reducible refine AtA.mk' ?_|refine CallE.inl ?_|refine QB ?_|intro x hx hu|intro h|refine Spp.mk ?_ ?_))
    all_goals first|(exfalso;omega)|(exfalso;dsimp only at*;omega)|skip
    exact⟨k+1,hkl,by first|omega|(dsimp only;omega),hto hc (Wk.en ⟨ai rfl (ai (QW (by omega)) (ai rfl (ai rfl (ai (QW (by omega)) trivial)))),(ai rfl (ai rfl (ai rfl (ai rfl (ai rfl (ai rfl (ai rfl (ai rfl (ai rfl trivial))))))))),rfl⟩)⟩
   ·rw [if_neg hwn]at hc
    (repeat' ((conv=>whnf);first|with_reducible refine ZY hx ?_|with_reducible refine AtA.mk' ?_|refine CallE.inl ?_|refine QB ?_|intro x hx hu|intro h|refine Spp.mk ?_ ?_))
    all_goals first|(exfalso;omega)|(exfalso;dsimp only at*;omega)|skip
    exact⟨k+1,hkl,by first|omega|(dsimp only;omega),hto hc (Wk.en ⟨ai rfl (ai (QW (by omega)) (ai rfl (ai rfl (ai (QW (by omega)) trivial)))),(ai rfl (ai rfl (ai rfl (ai rfl (ai rfl (ai rfl (ai rfl (ai rfl (ai rfl trivial))))))))),rfl⟩)⟩
  ·have hke:d.wait.take k=d.wait:=yd (by omega)
   unfold wtA
   rw[hke]
   unfold QEh
   (repeat' ((conv=>whnf);first|refine QB ?_|intro x hx hu|intro h|refine Spp.mk ?_ ?_))
   all_goals first|(exfalso;omega)|skip
   exact QJ
 ·rw [if_pos c1]at hA
  subst hA
  refine QR i21 fun T=>?_
  (repeat' ((conv=>whnf);first|refine CallE.inl ?_|refine rFk hL ?_|refine rFk hL ?_|refine CallI.h hW [0,1,2,3,4] ?_|with_reducible refine CallI.inl QA i11 rfl ?_|with_reducible refine CallI.inl QA i50 rfl ?_|refine QB ?_|intro x hx hu|intro h|refine Spp.mk ?_ ?_))
  all_goals first|(exfalso;omega)|skip
  all_goals exact QJ
theorem QCL(bad:List Int)(d:Dk)(p:List UInt8)(kind:Int)(ks:List Int)(n:Int)(h0:0≤n):rdS (some (synP bad d p kind ks).1) n=rdS (some d) n:=by
 unfold synP
 split
 ·rfl
 ·split
  ·rfl
  ·exact QON _ d n h0
theorem QJj(bad:List Int)(d:Dk)(p:List UInt8)(kind:Int)(ks:List Int):∀w∈(synP bad d p kind ks).1.wait,w∈d.wait:=by
 intro w hw
 unfold synP at hw
 split at hw
 ·exact hw
 ·split at hw
  ·exact hw
  ·exact (Yn _ _ w hw).1
theorem QLL{f:Int→List UInt8}{p:List UInt8}{kind:Int}(h:(YR f p kind).2=0):(YR f p kind).1=(Qa f p).1∧(Qy f (Qa f p).1).k=kind:=by
 unfold YR at h⊢
 split
 ·rename_i h1;rw[if_pos h1]at h;exact absurd h h1
 ·rename_i h1
  rw[if_neg h1]at h
  split
  ·rename_i h2;rw[if_pos h2]at h;cases h
  ·rename_i h2;exact⟨rfl,uv h2⟩
theorem QHU{bad:List Int}{d:Dk}{p:List UInt8}{kind:Int}{ks:List Int}(h:(synP bad d p kind ks).2=0):(YR (rdS (some d)) p kind).2=0∧(synP bad d p kind ks).1=QBJ (tgs ks (YR (rdS (some d)) p kind).1) d:=by
 unfold synP at h⊢
 split
 ·rename_i h1;rw[if_pos h1]at h;exact absurd h h1
 ·rename_i h1
  rw[if_neg h1]at h
  split
  ·rename_i h2;rw[if_pos h2]at h;cases h
  ·exact ⟨uv h1,rfl⟩
theorem QDr{bad:List Int}{d:Dk}{p:List UInt8}{kind:Int}{ks:List Int}(h:(synP bad d p kind ks).2=0):∀w∈(synP bad d p kind ks).1.wait,w.i=(Qa (rdS (some d)) p).1→w.k∉ks:=by
 intro w hw hi hk
 obtain⟨h1,h2⟩:=QHU h
 obtain⟨h3,_⟩:=QLL h1
 rw[h2]at hw
 refine QKu hw ?_
 unfold tgs
 rw[h3,←hi]
 exact yb.2 ⟨w.k,hk,rfl⟩
theorem QLM(bad:List Int)(d:Dk)(p:List UInt8)(m:Int)(h0:0≤m):rdS (some (synP bad (synP bad d p 1 [1,2]).1 p 2 [3,2]).1) m=rdS (some d) m:=by
 rw[QCL _ _ _ _ _ _ h0,QCL _ _ _ _ _ _ h0]
theorem QF3(bad:List Int)(d:Dk)(p:List UInt8):Qa (rdS (some (synP bad d p 1 [1,2]).1)) p=Qa (rdS (some d)) p:=QKq (fun m h0=>QCL bad d p 1 [1,2] m h0) p
theorem QM1(bad:List Int)(d:Dk)(p:List UInt8):∀w∈(synP bad (synP bad d p 1 [1,2]).1 p 2 [3,2]).1.wait,w.i=(Qa (rdS (some d)) p).1→((synP bad d p 1 [1,2]).2=0→w.k≠1∧w.k≠2)∧((synP bad (synP bad d p 1 [1,2]).1 p 2 [3,2]).2=0→w.k≠3∧w.k≠2):=by
 intro w hw hi
 refine⟨fun h=>?_,fun h=>?_⟩
 ·have:=QDr h w (QJj _ _ _ _ _ w hw) hi
  simp only[zi,y6,or_false,not_or]at this
  exact this
 ·have:=QDr h w hw (by rw[QF3];exact hi)
  simp only[zi,y6,or_false,not_or]at this
  exact this
theorem QM2(bad:List Int)(d:Dk)(p:List UInt8):¬((synP bad d p 1 [1,2]).2=0∧(synP bad (synP bad d p 1 [1,2]).1 p 2 [3,2]).2=0):=by
 rintro⟨h1,h2⟩
 have a1:=(QLL (QHU h1).1).2
 have a2:=(QLL (QHU h2).1).2
 rw[QF3]at a2
 have e:Qy (rdS (some (synP bad d p 1 [1,2]).1)) (Qa (rdS (some d)) p).1=Qy (rdS (some d)) (Qa (rdS (some d)) p).1:=QCd (fun m h0=>QCL bad d p 1 [1,2] m h0) _
 rw[e,a1]at a2
 cases a2
def j2:Dk:=(runP [] k1 (QFp (rdS (some k1)) kA [120])).1
def j3:Dk:=(synP [] j2 kA 1 [1,2]).1
def j4:Dk:=(synP [] j3 [47] 2 [3,2]).1
theorem QRj:(runP [] k1 (QFp (rdS (some k1)) kA [120])).2=0:=by decide+kernel
theorem QRk:QLE j2 kA=(3,0):=by decide+kernel
theorem QRl:(synP [] j2 kA 1 [1,2]).2=0:=by decide+kernel
theorem QRm:(synP [] j3 [47] 2 [3,2]).2=0:=by decide+kernel
theorem QRn:j4.wait=[]:=by decide+kernel
theorem QP6:(j4.safe[17]?).bind (fun s=>s[16]?)=some 97∧(j4.safe[41]?).bind (fun s=>s[0]?)=some 120:=by decide+kernel
theorem QRo:YR (rdS (some j4)) [47] 1=(0,6):=by decide+kernel
def QAm(b:Bool)(bad:List Int)(d:Dk):List (Nat×Ob):=QGA 1 2 3 4 5 b bad d++[(6,.cells 1 [.ptr 1 0])]
def frR:Nat→Nat|1=>8|2=>10|3=>11|4=>9|5=>7|6=>20|j=>j
def frS(d:Dk)(T:Nat→Nat):S:=⟨[(2,.ptr 6 0)],QAm false [] d++Qn 0 [] T,7⟩
theorem QF4(image:List (List UInt8))(hm:QEV image)(c4:QAF image):FnH Tryz.prog 9 [.d (QBH image)] [] 0 [] (.ptr 6 0) (QAm false [] (dk0 image)) 7:=by
 have hn:image.length=65:=c4.1
 have hF:FnH Tryz.prog 18 [.d (QBH image)] [] 0 [] (.tup [.ptr 7 0,.d (.it .i64 0)]) (QGA 7 9 10 8 6 false [] (dk0 image)) 11:=QGB image (by omega)
 have f0:Fd [] (dk0 image) 0:=Fd.dk0 hm c4.1
 have hi0:YQ (some (dk0 image))=image:=QGC (dk0 image)
 have hMt:=QHZ (b:=false) f0 (by rw[hi0];exact c4)
 generalize dk0 image=d0 at*
 refine QR i9 fun T=>?_
 (repeat' ((conv=>whnf);first|refine CallE.inl ?_|refine CallI.byH hF [] rfl ⟨rfl,by decide,by with_unfolding_all exact rfl⟩ trivial rfl rfl ?_|refine CallI.h hMt [8,10,11,9,7] ?_|refine QB ?_|intro x hx hu|intro h|refine Spp.mk ?_ ?_))
 all_goals first|(exfalso;omega)|skip
 conv=>whnf
 refine⟨frS d0 T,Wk.ren frR ?_ ?_ rfl rfl,rfl,(ai rfl (ai rfl (ai rfl (ai rfl (ai rfl (ai rfl trivial)))))),(ai rfl trivial)⟩
 ·exact (ai rfl trivial)
 ·exact (ai rfl (ai rfl (ai rfl (ai rfl (ai rfl (ai rfl (ai rfl trivial)))))))
theorem QJk(image:List (List UInt8))(h:¬(1≤image.length∧image.length≤65)):FnC Tryz.prog 9 [.d (QBH image)] (.d (.ot (.pointer none))):=by
 have hF:FnC Tryz.prog 18 [.d (QBH image)] _:=QLV image h
 have hMt:FnC Tryz.prog 20 [.d (.ot (.pointer none))] (.tup [.d (.ot (.pointer none)),.d (.it .i64 1)]):=by
  have h:=QFw none trivial
  rw[show QBM none= .tup [.d (.ot (.pointer none)),.d (.it .i64 1)] by unfold QBM;rw[if_neg (by decide)];rfl]at h
  exact h
 refine QL i9 ?_
 (repeat' ((conv=>whnf);first|refine cEk hF ?_|refine cEk hMt ?_|refine CallE.inl ?_|refine QB ?_|intro x hx hu|intro h|refine Spp.mk ?_ ?_))
 all_goals first|(exfalso;omega)|rfl
theorem QJl(image:List (List UInt8))(hm:QEV image)(h:1≤image.length∧image.length≤65)(c4:¬QAF image):FnC Tryz.prog 9 [.d (QBH image)] (.d (.ot (.pointer none))):=by
 have hd0:XI (some (dk0 image)):=⟨hm,fun w hw=>(by cases hw),h.2,yf _⟩
 have hi0:YQ (some (dk0 image))=image:=QGC (dk0 image)
 have hF:FnH Tryz.prog 18 [.d (QBH image)] [] 0 [] (.tup [.ptr 7 0,.d (.it .i64 0)]) (QGA 7 9 10 8 6 false [] (dk0 image)) 11:=QGB image h
 have hMt:=QFw (some (dk0 image)) hd0
 rw[show QBM (some (dk0 image))= .tup [.d (.ot (.pointer none)),.d (.it .i64 8)] by
  unfold QBM
  rw[hi0,if_neg c4,if_neg (fun h2=>by have h':image=[]:=h2;rw[h']at h;simp at h)]]at hMt
 generalize dk0 image=d0 at*
 refine QL i9 ?_
 (repeat' ((conv=>whnf);first|refine CallE.inl ?_|refine CallI.byH hF [] rfl ⟨rfl,by decide,by with_unfolding_all exact rfl⟩ trivial rfl rfl ?_|refine rFk hMt ?_|refine QB ?_|intro x hx hu|intro h|refine Spp.mk ?_ ?_))
 all_goals first|(exfalso;omega)|rfl
theorem QJm(nx:Int)(sf:List (List UInt8))(lg:List (List D))(ep:Int)(h0:sf.length≠0):FnC Tryz.prog 16 [.d (QS (some ⟨nx,sf,[],lg,ep⟩))] (.d (.fs 36 [])):=by
 have hn:FnC Tryz.prog 57 [.d (QS (some ⟨nx,sf,[],lg,ep⟩))] (.d (.bl false)):=by
  have:=Jg (some ⟨nx,sf,[],lg,ep⟩)
  rw[show QBp (some ⟨nx,sf,[],lg,ep⟩)=false from decide_eq_false h0]at this
  exact this
 refine QL i16 ?_
 (repeat' ((conv=>whnf);first|refine cEk hn ?_|refine CallE.inl ?_|with_reducible refine CallI.inl QA i58 rfl ?_|refine QB ?_|intro x hx hu|intro h|refine Spp.mk ?_ ?_))
 all_goals first|(exfalso;omega)|skip
 all_goals first|rfl|skip
theorem QAn(e:Int):FnC Tryz.prog 17 [.d (.it .i64 e)] (.d (.it .i64 e)):=by
 refine QL i17 ?_
 (repeat' ((conv=>whnf);first|refine QB ?_|intro x hx hu|intro h|refine Spp.mk ?_ ?_))
 rfl
theorem QOd(d:Dk)(h:XI (some d))(p:List UInt8)(hp:p.length≤100000)(kind:Int)(e:Int)(he:(YR (rdS (some d)) p kind)=(0,e))(he0:e≠0):
  FnC Tryz.prog 56 [.d (.fp 1 [QS (some d)]),.d (.st p),.d (.it .i64 kind)] (.tup [.d (.it .i64 0),.d (.it .i64 e)]):=by
 have hL:=X5 (some d) h p hp
 have hI:=Xe (some d) h (Qa (rdS (some d)) p).1
 have hA:YR (rdS (some d)) p kind=if(Qa (rdS (some d)) p).2≠0 then(0,(Qa (rdS (some d)) p).2)else if(Qy (rdS (some d)) (Qa (rdS (some d)) p).1).k≠kind then(0,6)else((Qa (rdS (some d)) p).1,0):=rfl
 rw[he]at hA
 generalize Qy (rdS (some d)) (Qa (rdS (some d)) p).1=x at*
 generalize Qa (rdS (some d)) p=q at*
 obtain⟨n,e2⟩:=q
 obtain⟨k,z,b0,b1,b2,b3⟩:=x
 dsimp only at hA hI hL
 replace hI:FnC Tryz.prog 111 [.d (QS (some d)),.d (.it .i64 n)] (.dg 6 [.it .i64 k,.it .i64 z,.it .i64 b0,.it .i64 b1,.it .i64 b2,.it .i64 b3]):=hI
 by_cases c1:e2=0
 ·subst c1
  rw[if_neg (by decide)]at hA
  by_cases c2:k=kind
  ·rw [if_neg (fun h=>h c2)]at hA
   exact absurd (u5 hA).2 he0
  ·rw [if_pos c2]at hA
   obtain rfl:=(u5 hA).2
   refine QL i56 ?_
   (repeat' ((conv=>whnf);first|refine cEk hL ?_|refine cEk hI ?_|refine CallE.inl ?_|with_reducible refine CallI.inl QA i11 rfl ?_|with_reducible refine CallI.inl QA i50 rfl ?_|refine QB ?_|intro x hx hu|intro h|refine Spp.mk ?_ ?_))
   all_goals first|(exfalso;omega)|rfl
 ·rw [if_pos c1]at hA
  obtain rfl:=(u5 hA).2
  refine QL i56 ?_
  (repeat' ((conv=>whnf);first|refine cEk hL ?_|refine cEk hI ?_|refine CallE.inl ?_|with_reducible refine CallI.inl QA i11 rfl ?_|with_reducible refine CallI.inl QA i50 rfl ?_|refine QB ?_|intro x hx hu|intro h|refine Spp.mk ?_ ?_))
  all_goals first|(exfalso;omega)|rfl
theorem QJn(d:Dk)(h:XI (some d))(p:List UInt8)(hp:p.length≤100000)(e:Int)(he:(YR (rdS (some d)) p 1)=(0,e))(he0:e≠0):
  FnC Tryz.prog 14 [.d (.fp 1 [QS (some d)]),.d (.st p)] (.d (.it .i64 e)):=by
 have hA:=QOd d h p hp 1 e he he0
 refine QL i14 ?_
 (repeat' ((conv=>whnf);first|refine cEk hA ?_|refine CallE.inl ?_|with_reducible refine CallI.inl QA i55 rfl ?_|with_reducible refine CallI.inl QA QDK rfl ?_|refine QB ?_|intro x hx hu|intro h|refine Spp.mk ?_ ?_))
 all_goals first|(exfalso;omega)|rfl
theorem QP7{P:Program}{N:Nat}{o:Oper}{σ:S}{l:List AV}{K:S→Prop}(h:CallI P N o σ 48 l K):CallI P N o σ 48 l K:=h
theorem QP8{P:Program}{N:Nat}{o:Oper}{σ:S}{l:List AV}{K:S→Prop}(h:CallI P N o σ 21 l K):CallI P N o σ 21 l K:=h
theorem QNl{P:Program}{N:Nat}{o:Oper}{σ:S}{l:List AV}{K:S→Prop}(h:CallI P N o σ 14 l K):CallI P N o σ 14 l K:=h
theorem QNm{P:Program}{N:Nat}{o:Oper}{σ:S}{l:List AV}{K:S→Prop}(h:CallI P N o σ 15 l K):CallI P N o σ 15 l K:=h
theorem QP9{P:Program}{N:Nat}{o:Oper}{σ:S}{l:List AV}{K:S→Prop}(h:CallI P N o σ 11 l K):CallI P N o σ 11 l K:=h
def kU(d:Dk)(sl:List (Nat×AV)):S:=⟨sl,QAm false [] d,7⟩
theorem QLN{L:List (List UInt8)}{n m:Nat}{v:UInt8}(h:(L[n]?).bind (fun s=>s[m]?)=some v):∃s,L[n]? =some s∧s[m]? =some v:=by
 cases hL:L[n]? with
 |none=>rw[hL]at h;cases h
 |some s=>rw[hL]at h;exact⟨s,rfl,h⟩
theorem QHV:FnC Tryz.prog 8 [] (.d (.bl true)):=by
 have f0:Fd [] k0 0:=Fd.dk0 QKj rfl
 have f1:Fd [] k1 5:=f0.runP (QLI ..) (by omega)
 have f2:Fd [] j2 10:=f1.runP (QIY ..) (by omega)
 have f3:Fd [] j3 11:=f2.synP kA 1 [1,2] (by decide) (by omega)
 have f4:Fd [] j4 12:=f3.synP [47] 2 [3,2] (by decide) (by omega)
 have hFr:FnH Tryz.prog 9 [.d (QBH Y0)] [] 0 [] (.ptr 6 0) (QAm false [] k0) 7:=QF4 Y0 QKj (by decide+kernel)
 have hC:FnH Tryz.prog 47 [.ptr 5 0,.d (.st kA)] (QZ false [] k0) 6 [0,5] (.d (.it .i64 0)) (QZ false [] k1) 6:=by
  have:=QDq (b:=false) f0 kA (by decide)
  rw[QRi]at this
  exact this
 have hA:FnH Tryz.prog 48 [.ptr 5 0,.d (.st kA),.d (.fs 1 [[.it .u8 120]])] (QZ false [] k1) 6 [0,5] (.d (.it .i64 0)) (QZ false [] j2) 6:=by
  have:=QDp (b:=false) f1 kA (by decide) [120] (by decide)
  rw[QRj]at this
  exact this
 have hW:FnH Tryz.prog 21 [.ptr 5 0,.d (.st kA)] (QZ false [] j2) 6 [0,5] (.tup [.d (.it .i64 3),.d (.it .i64 0)]) (QZ false [] j2) 6:=by
  have:=QLK (b:=false) f2 kA (by decide)
  rw[QRk]at this
  exact this
 have hF:FnH Tryz.prog 14 [.ptr 5 0,.d (.st kA)] (QZ false [] j2) 6 [0,5] (.d (.it .i64 0)) (QZ false [] j3) 6:=by
  have:=QCn (b:=false) f2 kA (by decide)
  rw[QRl]at this
  exact this
 have hS:FnH Tryz.prog 15 [.ptr 5 0,.d (.st [47])] (QZ false [] j3) 6 [0,5] (.d (.it .i64 0)) (QZ false [] j4) 6:=by
  have:=QEg (b:=false) f3 [47] (by decide)
  rw[QRm]at this
  exact this
 have hSf:FnC Tryz.prog 49 [.d (QS (some j4))] (.d (.fs 32 (j4.safe.map QF))):=QEa (some j4) f4.ok
 have hWn:FnC Tryz.prog 16 [.d (QS (some j4))] (.d (.fs 36 [])):=by
  have h0:=f4.b.s0
  have hw:=QRn
  generalize j4=d at*
  obtain⟨nx,sf,wt,lg,ep⟩:=d
  dsimp only at hw h0
  subst hw
  exact QJm nx sf lg ep h0
 have hFe:=QJn j4 f4.ok [47] (by decide) 6 QRo (by decide)
 obtain⟨s17,e17,v17⟩:=QLN QP6.1
 obtain⟨s41,e41,v41⟩:=QLN QP6.2
 obtain⟨g17,rfl⟩:=Xy (f4.s s17 (yi e17))
 obtain⟨g41,rfl⟩:=Xy (f4.s s41 (yi e41))
 have w17:g17 16=97:=by
  have:some (g17 16)=some (97:UInt8):=v17
  exact za this
 have w41:g41 0=120:=by
  have:some (g41 0)=some (120:UInt8):=v41
  exact za this
 have w17i:((g17 16).toNat:Int)=97:=by rw[w17];rfl
 have w41i:((g41 0).toNat:Int)=120:=by rw[w41];rfl
 have x17:(j4.safe.map QF)[17]? =some (QF (ZN g17)):=by rw[yy,e17];rfl
 have x41:(j4.safe.map QF)[41]? =some (QF (ZN g41)):=by rw[yy,e41];rfl
 have hlen:(j4.safe.map QF).length=65:=by rw[ze];exact f4.n
 have n0:=QAn 0
 have n6:=QAn 6
 have hE:=QKk
 clear f0 f1 f2 f3 f4 e17 e41 v17 v41
 generalize k0=d0 at*
 generalize k1=d1 at*
 generalize j2=d2 at*
 generalize j3=d3 at*
 generalize hL:j4.safe.map QF=L at*
 generalize j4=d4 at*
 generalize QBH Y0=E at*
 refine QL i8 ?_
 (repeat' ((conv=>whnf);first|((with_reducible refine QFK ?_);refine J4.vec ?_)|((with_reducible refine Q8 ?_);refine OpX.conv QA rfl rfl (by with_unfolding_all exact rfl) (by with_unfolding_all exact rfl) (by with_unfolding_all exact rfl) (bll rfl) (by with_unfolding_all exact rfl) rfl (by with_unfolding_all exact rfl) rfl ?_)|refine cEk hE ?_|refine cEk hSf ?_|refine cEk hWn ?_|refine cEk hFe ?_|refine cEk n0 ?_|refine cEk n6 ?_|refine CallE.inl ?_|refine cPk n0 ?_|refine cPk n6 ?_|refine cPk hWn ?_|refine cPk hFe ?_|refine QFC x17 ?_|refine QFC x41 ?_|refine CallI.byH hFr [] rfl ⟨rfl,by decide,by with_unfolding_all exact rfl⟩ trivial rfl rfl ?_|refine CallI.h hC [1,2,3,4,5,6] ?_|((with_reducible refine QP7 ?_);refine CallI.wk (τ:=kU d1 [(1,.ptr 6 0),(14,.d (.it .i64 0)),(15,.ptr 6 0),(17,.d (.fs 1 [[.it .u8 120]]))]) (Wk.en (⟨(ai rfl (ai rfl (ai rfl (ai rfl trivial)))),(ai rfl (ai rfl (ai rfl (ai rfl (ai rfl (ai rfl trivial)))))),rfl⟩)) ⟨_,_,_,_,_,_,rfl,rfl,rfl,rfl⟩ ?_;refine CallI.h hA [1,2,3,4,5,6] ?_)|((with_reducible refine QP8 ?_);refine CallI.wk (τ:=kU d2 [(1,.ptr 6 0),(2,.d (.it .i64 0)),(3,.d (.it .i64 0)),(20,.ptr 6 0)]) (Wk.en (⟨(ai rfl (ai rfl (ai rfl (ai rfl trivial)))),(ai rfl (ai rfl (ai rfl (ai rfl (ai rfl (ai rfl trivial)))))),rfl⟩)) ⟨_,_,_,_,_,_,rfl,rfl,rfl,rfl⟩ ?_;refine CallI.h hW [1,2,3,4,5,6] ?_)|((with_reducible refine QNl ?_);refine CallI.wk (τ:=kU d2 [(1,.ptr 6 0),(2,.d (.it .i64 0)),(3,.d (.it .i64 0)),(4,.d (.it .i64 3)),(5,.d (.it .i64 0)),(24,.ptr 6 0)]) (Wk.en (⟨(ai rfl (ai rfl (ai rfl (ai rfl (ai rfl (ai rfl trivial)))))),(ai rfl (ai rfl (ai rfl (ai rfl (ai rfl (ai rfl trivial)))))),rfl⟩)) ⟨_,_,_,_,_,_,rfl,rfl,rfl,rfl⟩ ?_;refine CallI.h hF [1,2,3,4,5,6] ?_)|((with_reducible refine QNm ?_);refine CallI.wk (τ:=kU d3 [(1,.ptr 6 0),(2,.d (.it .i64 0)),(3,.d (.it .i64 0)),(4,.d (.it .i64 3)),(5,.d (.it .i64 0)),(25,.d (.it .i64 0)),(26,.ptr 6 0)]) (Wk.en (⟨(ai rfl (ai rfl (ai rfl (ai rfl (ai rfl (ai rfl (ai rfl trivial))))))),(ai rfl (ai rfl (ai rfl (ai rfl (ai rfl (ai rfl trivial)))))),rfl⟩)) ⟨_,_,_,_,_,_,rfl,rfl,rfl,rfl⟩ ?_;refine CallI.h hS [1,2,3,4,5,6] ?_)|((with_reducible refine QP9 ?_);refine CallI.wk (τ:=⟨[(28,.d (.fp 1 [QS (some d4)])),(1,.d (.fp 1 [QS (some d4)])),(2,.d (.it .i64 0)),(3,.d (.it .i64 0)),(4,.d (.it .i64 3)),(5,.d (.it .i64 0)),(6,.d (.it .i64 0)),(7,.d (.it .i64 0))],[],13⟩) (Wk.frA [28,1] (u:= .ptr 6 0) (x:= .fp 1 [QS (some d4)]) [(2,.d (.it .i64 0)),(3,.d (.it .i64 0)),(4,.d (.it .i64 3)),(5,.d (.it .i64 0)),(6,.d (.it .i64 0)),(7,.d (.it .i64 0))] 13 (ai rfl (ai rfl trivial)) (frG (by with_unfolding_all exact rfl) (by with_unfolding_all exact rfl) (by with_unfolding_all exact rfl)) (ai rfl (ai rfl (ai rfl (ai rfl (ai rfl (ai rfl trivial)))))) rfl) ⟨_,_,_,_,_,_,rfl,rfl,rfl,rfl⟩ ?_;with_reducible refine CallI.inl QA i11 rfl ?_)|with_reducible refine CallI.inl QA i11 rfl ?_|with_reducible refine CallI.inl QA i50 rfl ?_|refine QB ?_|intro x hx hu|intro h|refine Spp.mk ?_ ?_))
 all_goals first|exact YL (by decide)|(exfalso;omega)|(exfalso;rename_i h;exact h w17i)|(exfalso;rename_i h;exact h w41i)
def QHW(a:Act):Bool:=decide (a.p.length≤100∧a.q.length≤100∧a.b.length≤300∧a.bad.length≤30)
def QDO(l:List Act)(m:Int):Bool:=(l.take 100).all QHW&&decide ((l.length:Int)≤m)
theorem QLO(l:List Act)(m:Int):FnC Tryz.prog 7 [.d (.fs 6 (l.map QBO)),.d (.it .i64 m)] (.d (.bl (QDO l m))):=by
 have hl:(l.map QBO).length=l.length:=ze ..
 have hno:=fun(k:Nat) (a:Act) (hk:k<100) (hx:l[k]? =some a) (h:QHW a=false)=>show QDO l m=false from by
  unfold QDO
  rw[Bool.and_eq_false_iff]
  left
  rw[List.all_eq_false]
  exact⟨a,yi (i:=k) (by rw[x3,if_pos hk];exact hx),by simp[h]⟩
 have hyes:=fun(k:Nat) (hk:k≤l.length) (h1:∀j:Nat,j<k→∀a,l[j]? =some a→QHW a=true) (h2:¬(k<l.length∧k<100))=>show QDO l m=decide ((l.length:Int)≤m)from by
  unfold QDO
  have:(l.take 100).all QHW=true:=by
   rw[zb]
   intro a ha
   obtain⟨j,hj,rfl⟩:=ug ha
   rw[z2]at hj
   exact h1 j (by omega) _ (by rw[y8,zm (by omega)])
  rw[this,w9]
 generalize QDO l m=r at*
 refine QL i7 ?_
 (repeat' ((conv=>whnf);first|refine QB ?_|intro x hx hu|intro h|refine Spp.mk ?_ ?_))
 conv=>whnf
 refine Zb QA (fun k:Nat=>k≤l.length∧k≤100∧∀j:Nat,j<k→∀a,l[j]? =some a→QHW a=true) (fun k=>⟨[(0,.d (.fs 6 (l.map QBO))),(1,.d (.it .i64 m)),(5,.d (.it .i64 (k:Nat)))],[],0⟩) (fun k=>l.length-k) 0 ⟨yf _,yf _,fun j hj=>by omega⟩ ⟨(ai rfl (ai rfl (ai rfl trivial))),trivial,rfl⟩ ?_
 intro k hk0
 have hk:=hk0.1
 have hk1:=hk0.2.1
 have hk2:=hk0.2.2
 by_cases hkl:k<l.length∧k<100
 ·obtain ⟨a,hx⟩:=ZD hkl.1
  have hn:=hno k a hkl.2 hx
  have hb1:(QE a.b).length=a.b.length:=ze ..
  have hb2:(vI a.bad).length=a.bad.length:=ze ..
  have hkl1:=hkl.1
  have hkl2:=hkl.2
  by_cases hla:QHW a=true
  ·have h4:=of_decide_eq_true hla
   obtain⟨q1,q2,q3,q4⟩:=h4
   have hnx:∀j:Nat,j<k+1→∀a,l[j]? =some a→QHW a=true:=fun j hj a' ha'=>by
    by_cases hjk:j=k
    ·rw [hjk,hx]at ha'
     obtain rfl:=za ha'
     exact hla
    ·exact hk2 j (by omega) a' ha'
   (repeat' ((conv=>whnf);first|with_reducible refine ZY hx ?_|refine QB ?_|intro x hx hu|intro h|refine Spp.mk ?_ ?_))
   all_goals first|(exfalso;omega)|skip
   exact again (k+1) ⟨by omega,by omega,hnx⟩ (by first|omega|(dsimp only;omega)) (ai rfl (ai rfl (ai (QW (by omega)) trivial))) trivial rfl
  ·have h4:¬(a.p.length≤100∧a.q.length≤100∧a.b.length≤300∧a.bad.length≤30):=fun h=>hla (decide_eq_true h)
   have hr:=hn (by simpa using hla)
   (repeat' ((conv=>whnf);first|with_reducible refine ZY hx ?_|refine QB ?_|intro x hx hu|intro h|refine Spp.mk ?_ ?_))
   all_goals first|(exfalso;omega)|exact YL hr.symm
 ·have hr:=hyes k hk hk2 hkl
  (repeat' ((conv=>whnf);first|refine QB ?_|intro x hx hu|intro h|refine Spp.mk ?_ ?_))
  all_goals first|(exfalso;omega)|skip
  all_goals exact YL (by rw[hr,hl])
end Go.Proofs.YtikgcbioagmkkaaGreatDoor
