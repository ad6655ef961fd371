/- Contracts of the functions that the law reaches, and the law. Conditions: none. -/
import Derived.Test.YtikgcbioagmkkaaGreatDoorKH
import Derived.Test.YtikgcbioagmkkaaGreatDoorKE
import Derived.Test.YtikgcbioagmkkaaGreatDoorKK
import Derived.Test.YtikgcbioagmkkaaGreatDoorSE
import Derived.Test.YtikgcbioagmkkaaGreatDoorKG
import Derived.Test.YtikgcbioagmkkaaGreatDoorKD
import Derived.Test.YtikgcbioagmkkaaGreatDoorKF
set_option maxRecDepth 100000
set_option linter.all false
set_option maxHeartbeats 16000000
namespace Go.Proofs.YtikgcbioagmkkaaGreatDoor
open Go.Sy
structure Act where
 k:Int
 p:List UInt8
 q:List UInt8
 n:Int
 b:List UInt8
 bad:List Int
def Xb(a:Act):List D:=[.it .i64 a.k,.st a.p,.st a.q,.it .i64 a.n,.fs 1 (QD a.b),.fs 1 (vI a.bad)]
structure QMo(a:Act):Prop where
 p:a.p.length≤100
 q:a.q.length≤100
 b:a.b.length≤300
 bad:a.bad.length≤30
def QA2(f:Int→List UInt8)(a:Act):Pln:=
 if a.k=0 then mkP f a.p 1 else if a.k=1 then mkP f a.p 2 else if a.k=2 then J3 f a.p a.n a.b else if a.k=3 then QCD f a.p a.b else
 if a.k=4 then QBZ f a.p a.n else if a.k=5 then QBa f a.p a.q else if a.k=6 then QAz f a.p else(0,[])
theorem QCG{b:Bool}{bad:List Int}{d:Dk}{N:Nat}(h:Fd bad d N)(p:List UInt8)(hp:p.length≤100000):
  FnH Tryz.prog 47 [.ptr 5 0,.d (.st p)] (Qm b bad d) 6 [0,5] (.d (.it .i64 (runP bad d (mkP (rdS (some d)) p 1)).2)) (Qm b bad (runP bad d (mkP (rdS (some d)) p 1)).1) 6:=by
 have h1:=QKC (b:=b) h p hp 1
 generalize runP bad d (mkP (rdS (some d)) p 1)=R at*
 refine QR i47 fun T=>?_
 (repeat' ((conv=>whnf);first|refine CallE.inl ?_|refine CallI.h h1 [0,1,2,3,4,5] ?_|refine QB ?_|intro x hx hu|intro h|refine Spp.mk ?_ ?_))
 exact QS
theorem QMp{b:Bool}{bad:List Int}{d:Dk}{N:Nat}(h:Fd bad d N)(p:List UInt8)(hp:p.length≤100000):
  FnH Tryz.prog 89 [.ptr 5 0,.d (.st p)] (Qm b bad d) 6 [0,5] (.d (.it .i64 (runP bad d (mkP (rdS (some d)) p 2)).2)) (Qm b bad (runP bad d (mkP (rdS (some d)) p 2)).1) 6:=by
 have h1:=QKC (b:=b) h p hp 2
 generalize runP bad d (mkP (rdS (some d)) p 2)=R at*
 refine QR i89 fun T=>?_
 (repeat' ((conv=>whnf);first|refine CallE.inl ?_|refine CallI.h h1 [0,1,2,3,4,5] ?_|refine QB ?_|intro x hx hu|intro h|refine Spp.mk ?_ ?_))
 exact QS
theorem QPA{b:Bool}{bad:List Int}{d:Dk}{N:Nat}(h:Fd bad d N)(a:Act)(ha:QMo a)(h7:a.k≠7):
  FnH Tryz.prog 40 [.ptr 5 0,.dg 6 (Xb a)] (Qm b bad d) 6 [0,5] (.d (.it .i64 (runP bad d (QA2 (rdS (some d)) a)).2)) (Qm b bad (runP bad d (QA2 (rdS (some d)) a)).1) 6:=by
 have hap:=ha.p
 have haq:=ha.q
 have hab:=ha.b
 unfold QA2
 obtain⟨k,p,q,n,bb,ba⟩:=a
 dsimp only at*
 have g0:=QCG (b:=b) h p (by omega)
 have g1:=QMp (b:=b) h p (by omega)
 have g2:=QHW (b:=b) h p (by omega) n bb (by omega)
 have g3:=QK9 (b:=b) h p (by omega) bb (by omega)
 have g4:=QNA (b:=b) h p (by omega) n
 have g5:=QLB (b:=b) h p q (by omega) (by omega)
 have g6:=QFM (b:=b) h p (by omega)
 show FnH _ _ [.ptr 5 0,.dg 6 [.it .i64 k,.st p,.st q,.it .i64 n,.fs 1 (QD bb),.fs 1 (vI ba)]] _ _ _ _ _ _
 by_cases c0:k=0
 ·subst c0
  rw[if_pos rfl]
  generalize runP bad d (mkP (rdS (some d)) p 1)=R at*
  refine QR i40 fun T=>?_
  (repeat' ((conv=>whnf);first|refine CallE.inl ?_|refine CallI.h g0 [0,1,2,3,4,5] ?_|refine QB ?_|intro x hx hu|intro h|refine Spp.mk ?_ ?_))
  exact QS
 ·rw [if_neg c0]
  by_cases c1:k=1
  ·subst c1
   rw[if_pos rfl]
   generalize runP bad d (mkP (rdS (some d)) p 2)=R at*
   refine QR i40 fun T=>?_
   (repeat' ((conv=>whnf);first|refine CallE.inl ?_|refine CallI.h g1 [0,1,2,3,4,5] ?_|refine QB ?_|intro x hx hu|intro h|refine Spp.mk ?_ ?_))
   exact QS
  ·rw [if_neg c1]
   by_cases c2:k=2
   ·subst c2
    rw[if_pos rfl]
    generalize runP bad d (J3 (rdS (some d)) p n bb)=R at*
    refine QR i40 fun T=>?_
    (repeat' ((conv=>whnf);first|refine CallE.inl ?_|refine CallI.h g2 [0,1,2,3,4,5] ?_|refine QB ?_|intro x hx hu|intro h|refine Spp.mk ?_ ?_))
    exact QS
   ·rw [if_neg c2]
    by_cases c3:k=3
    ·subst c3
     rw[if_pos rfl]
     generalize runP bad d (QCD (rdS (some d)) p bb)=R at*
     refine QR i40 fun T=>?_
     (repeat' ((conv=>whnf);first|refine CallE.inl ?_|refine CallI.h g3 [0,1,2,3,4,5] ?_|refine QB ?_|intro x hx hu|intro h|refine Spp.mk ?_ ?_))
     exact QS
    ·rw [if_neg c3]
     by_cases c4:k=4
     ·subst c4
      rw[if_pos rfl]
      generalize runP bad d (QBZ (rdS (some d)) p n)=R at*
      refine QR i40 fun T=>?_
      (repeat' ((conv=>whnf);first|refine CallE.inl ?_|refine CallI.h g4 [0,1,2,3,4,5] ?_|refine QB ?_|intro x hx hu|intro h|refine Spp.mk ?_ ?_))
      exact QS
     ·rw [if_neg c4]
      by_cases c5:k=5
      ·subst c5
       rw[if_pos rfl]
       generalize runP bad d (QBa (rdS (some d)) p q)=R at*
       refine QR i40 fun T=>?_
       (repeat' ((conv=>whnf);first|refine CallE.inl ?_|refine CallI.h g5 [0,1,2,3,4,5] ?_|refine QB ?_|intro x hx hu|intro h|refine Spp.mk ?_ ?_))
       exact QS
      ·rw [if_neg c5]
       by_cases c6:k=6
       ·subst c6
        rw[if_pos rfl]
        generalize runP bad d (QAz (rdS (some d)) p)=R at*
        refine QR i40 fun T=>?_
        (repeat' ((conv=>whnf);first|refine CallE.inl ?_|refine CallI.h g6 [0,1,2,3,4,5] ?_|refine QB ?_|intro x hx hu|intro h|refine Spp.mk ?_ ?_))
        exact QS
       ·rw [if_neg c6,Z0]
        refine QR i40 fun T=>?_
        (repeat' ((conv=>whnf);first|refine CallE.inl ?_|refine QB ?_|intro x hx hu|intro h|refine Spp.mk ?_ ?_))
        exact QS
def rOb(bad:List Int)(d:Dk):Ob:= .cells 6 [.d (.fs 32 (d.safe.map QJ)),.d (.fs 36 (d.wait.map Qn)),.d (.it .i64 d.ep),.d (.fs 38 d.log),.d (.fs 1 (vI bad)),.d (.it .i64 d.nx)]
noncomputable def QSV:List Oper:=QUe 32 (Go.Sy.bd Tryz.f5)
def QUK:Tr:=(.cons 0 (.cons 1 (.cons 2 (.cons 3 (.cons 4 (.cons 5 (.cons 6 (.cons 7 (.cons 8 (.cons 9 (.cons 10 .nil .nil) .nil) (.cons 9 (.cons 8 (.cons 10 .nil .nil) (.cons 10 (.cons 8 .nil .nil) .nil)) .nil)) (.cons 9 (.cons 7 (.cons 8 (.cons 10 .nil .nil) (.cons 10 (.cons 8 .nil .nil) .nil)) (.cons 10 (.cons 7 (.cons 8 .nil .nil) .nil) .nil)) .nil)) (.cons 7 (.cons 6 (.cons 8 (.cons 9 (.cons 10 .nil .nil) .nil) (.cons 9 (.cons 8 (.cons 10 .nil .nil) (.cons 10 (.cons 8 .nil .nil) .nil)) .nil)) (.cons 8 (.cons 6 (.cons 9 (.cons 10 .nil .nil) .nil) (.cons 9 (.cons 6 (.cons 10 .nil .nil) (.cons 10 (.cons 6 .nil .nil) .nil)) .nil)) (.cons 9 (.cons 6 (.cons 8 (.cons 10 .nil .nil) (.cons 10 (.cons 8 .nil .nil) .nil)) (.cons 8 (.cons 6 (.cons 10 .nil .nil) (.cons 10 (.cons 6 .nil .nil) .nil)) (.cons 10 (.cons 6 (.cons 8 .nil .nil) (.cons 8 (.cons 6 .nil .nil) .nil)) .nil))) .nil))) (.cons 9 (.cons 6 (.cons 7 (.cons 8 (.cons 10 .nil .nil) (.cons 10 (.cons 8 .nil .nil) .nil)) (.cons 10 (.cons 7 (.cons 8 .nil .nil) .nil) .nil)) (.cons 7 (.cons 6 (.cons 8 (.cons 10 .nil .nil) (.cons 10 (.cons 8 .nil .nil) .nil)) (.cons 8 (.cons 6 (.cons 10 .nil .nil) (.cons 10 (.cons 6 .nil .nil) .nil)) (.cons 10 (.cons 6 (.cons 8 .nil .nil) (.cons 8 (.cons 6 .nil .nil) .nil)) .nil))) (.cons 10 (.cons 6 (.cons 7 (.cons 8 .nil .nil) .nil) (.cons 7 (.cons 6 (.cons 8 .nil .nil) (.cons 8 (.cons 6 .nil .nil) .nil)) .nil)) .nil))) .nil))) .nil) .nil) .nil) .nil) .nil) .nil)
def QUL:Tr:=(.cons 11 (.cons 12 (.cons 13 (.cons 14 (.cons 15 (.cons 16 (.cons 17 (.cons 18 (.cons 19 .nil .nil) .nil) (.cons 18 (.cons 17 (.cons 19 .nil .nil) (.cons 19 (.cons 17 .nil .nil) .nil)) .nil)) (.cons 18 (.cons 16 (.cons 17 (.cons 19 .nil .nil) (.cons 19 (.cons 17 .nil .nil) .nil)) (.cons 19 (.cons 16 (.cons 17 .nil .nil) .nil) .nil)) .nil)) (.cons 16 (.cons 15 (.cons 17 (.cons 18 (.cons 19 .nil .nil) .nil) (.cons 18 (.cons 17 (.cons 19 .nil .nil) (.cons 19 (.cons 17 .nil .nil) .nil)) .nil)) (.cons 17 (.cons 15 (.cons 18 (.cons 19 .nil .nil) .nil) (.cons 18 (.cons 15 (.cons 19 .nil .nil) (.cons 19 (.cons 15 .nil .nil) .nil)) .nil)) (.cons 18 (.cons 15 (.cons 17 (.cons 19 .nil .nil) (.cons 19 (.cons 17 .nil .nil) .nil)) (.cons 17 (.cons 15 (.cons 19 .nil .nil) (.cons 19 (.cons 15 .nil .nil) .nil)) (.cons 19 (.cons 15 (.cons 17 .nil .nil) (.cons 17 (.cons 15 .nil .nil) .nil)) .nil))) .nil))) (.cons 18 (.cons 15 (.cons 16 (.cons 17 (.cons 19 .nil .nil) (.cons 19 (.cons 17 .nil .nil) .nil)) (.cons 19 (.cons 16 (.cons 17 .nil .nil) .nil) .nil)) (.cons 16 (.cons 15 (.cons 17 (.cons 19 .nil .nil) (.cons 19 (.cons 17 .nil .nil) .nil)) (.cons 17 (.cons 15 (.cons 19 .nil .nil) (.cons 19 (.cons 15 .nil .nil) .nil)) (.cons 19 (.cons 15 (.cons 17 .nil .nil) (.cons 17 (.cons 15 .nil .nil) .nil)) .nil))) (.cons 19 (.cons 15 (.cons 16 (.cons 17 .nil .nil) .nil) (.cons 16 (.cons 15 (.cons 17 .nil .nil) (.cons 17 (.cons 15 .nil .nil) .nil)) .nil)) .nil))) .nil))) .nil) .nil) .nil) .nil)
def QUM:Tr:=(.cons 20 (.cons 21 (.cons 22 .nil .nil) .nil) .nil)
def QC8(b:Bool)(bad:List Int)(d:Dk)(r:Ob)(a:Act):List (Nat×Ob):=Qm b bad d++[(6,r),(7,.cells 6 [.d (.it .i64 a.k),.d (.st a.p),.d (.st a.q),.d (.it .i64 a.n),.d (.fs 1 (QD a.b)),.d (.fs 1 (vI a.bad))])]
def QEm(L:List (List D))(i:Nat)(e:Int)(m:List (Nat×Ob)):S:=⟨[(1,.d (.fs 6 L)),(5,.ptr 0 0),(7,.ptr 6 0),(9,.ptr 5 0),(12,.d (.it .i64 (i:Nat))),(13,.ptr 7 0),(14,.d (.it .i64 e))],m,9⟩
def QSW(L:List (List D))(i:Nat)(E:D)(p:List UInt8)(m:List (Nat×Ob)):S:=⟨[(1,.d (.fs 6 L)),(5,.ptr 0 0),(7,.ptr 6 0),(9,.ptr 5 0),(12,.d (.it .i64 (i:Nat))),(13,.ptr 7 0),(136,.d (.bl false)),(137,.ptr 5 0),(139,.d E),(141,.d (.st p))],m,9⟩
def QSX(L:List (List D))(i:Nat)(E:D)(q:List UInt8)(m:List (Nat×Ob)):S:=⟨[(1,.d (.fs 6 L)),(5,.ptr 0 0),(7,.ptr 6 0),(9,.ptr 5 0),(12,.d (.it .i64 (i:Nat))),(13,.ptr 7 0),(145,.d (.bl false)),(146,.ptr 5 0),(148,.d E),(150,.d (.st q))],m,9⟩
def QP8(L:List (List D))(i:Nat)(m:List (Nat×Ob)):S:=⟨[(1,.d (.fs 6 L)),(5,.ptr 0 0),(7,.ptr 6 0),(9,.ptr 5 0),(12,.d (.it .i64 (i:Nat))),(153,.d (.bl false))],m,9⟩
theorem QGA{N:Nat}{σ τ:S}(h:Wk N σ τ):Wk N σ τ:=h
theorem QSY(e:Int):(e !=e)=false:=by simp
theorem Jf{b b':Bool}{bad bad':List Int}{d d':Dk}{N:Nat}{e:Int}(a:Act)(hap:a.p.length≤100)(haq:a.q.length≤100)
  (hDo:FnH Tryz.prog 40 [.ptr 5 0,.dg 6 (Xb a)] (Qm b bad d) 6 [0,5] (.d (.it .i64 e)) (Qm b' bad' d') 6) (h':Fd bad' d' N) (L:List (List D)) (i:Nat) {K:S→Prop}
  (hK:K (QP8 L i (Qm b' bad' d'++[(6,rOb bad' d')]))):QX Tryz.prog ti 161 32 QSV (QEm L i e (QC8 b bad d (rOb bad' d') a)) K:=by
 have hm:=Jh h'
 have hmn:(QT d').length=65:=(JO _ _).trans h'.n
 have hfe:∀n:Int,0≤n→imS (QT d') n=rdS (some d') n:=fun n h0=>(QIt d' n h0).symm
 have hP:=QHm (b:=b') h' (QT d') hm hmn hfe a.p (by omega)
 have hQ:=QHm (b:=b') h' (QT d') hm hmn hfe a.q (by omega)
 have hNw:=X8 bad' d' h'.ok h'.r
 replace hNw:FnH Tryz.prog 42 [.ptr 0 0] (Qp bad' d') 1 [0] (.d (Q1 (QT d'))) (Qp bad' d') 1:=hNw
 generalize Q1 (QT d')=E at*
 have hn:=XI e
 replace hDo:FnH Tryz.prog 40 [.ptr 5 0,.dg 6 [.it .i64 a.k,.st a.p,.st a.q,.it .i64 a.n,.fs 1 (QD a.b),.fs 1 (vI a.bad)]] (Qm b bad d) 6 [0,5] (.d (.it .i64 e)) (Qm b' bad' d') 6:=hDo
 refine QX.mid (QP8 L i (Qm b' bad' d'++[(6,rOb bad' d')])) ?_ hK
 refine QX.of_A mixed (ZG.hoistW QA 0 (by decide+kernel) ?_)
 conv=>whnf
 refine ZG.hoistW QA 3 (by decide+kernel) ?_
 conv=>whnf
 refine .of_D (QB4.cut QA QUK [0,1,2,3,4,5,6,7,8,9,10] (QSW L i E a.p (QC8 b' bad' d' (rOb bad' d') a)) (by decide+kernel) ?_ (QB4.cut QA QUL [0,1,2,3,4,5,6,7,8,9,10,11,12,13,14,15,16,17,18,19] (QSX L i E a.q (QC8 b' bad' d' (rOb bad' d') a)) (by decide+kernel) ?_ (QB4.fin QA QUM (by decide+kernel) ?_)))
 ·(repeat' ((conv=>whnf);first|with_reducible exact trivial|with_reducible refine Br.mk ?_ ?_|((with_reducible refine QGA ?_);exact Wk.e)|with_reducible refine Spl.no (QSY e) ?_|refine cEk hn ?_|refine CallE.inl ?_|refine cPk hn ?_|refine CallI.h hDo [0,1,2,3,4,5] ?_|refine CallI.h hNw [6] ?_|refine QB ?_|intro x hx hu|intro h|refine Spp.mk ?_ ?_))
 ·(repeat' ((conv=>whnf);first|with_reducible exact trivial|with_reducible refine Br.mk ?_ ?_|((with_reducible refine QGA ?_);exact Wk.e)|refine CallE.inl ?_|refine CallI.h hP [0,1,2,3,4,5] ?_|refine CallI.h hNw [6] ?_|refine QB ?_|intro x hx hu|intro h|refine Spp.mk ?_ ?_))
 ·(repeat' ((conv=>whnf);first|with_reducible exact trivial|with_reducible refine Br.mk ?_ ?_|((with_reducible refine QGA ?_);exact Wk.e)|refine CallE.inl ?_|refine CallI.h hQ [0,1,2,3,4,5] ?_|refine QB ?_|intro x hx hu|intro h|refine Spp.mk ?_ ?_))
theorem QPB{P:Program}{ti:Nat→Option Ty}{N:Nat}{ops:List Oper}{σ:S}{K:S→Prop}(h:QX P ti N 17 ops σ K):QX P ti N 17 ops σ K:=h
theorem QPC{N:Nat}{σ τ:S}(h:Wk N σ τ):Wk N σ τ:=h
def d7S(ba:List Int)(d:Dk)(T:Nat→Nat):S:=⟨[(0,.ptr 5 0)],Qm true ba (z0f d)++Qs 6 [0,5] T,40⟩
theorem QQw{b:Bool}{bad:List Int}{d:Dk}{N:Nat}(h:Fd bad d N)(a:Act)(ha:QMo a)(h7:a.k=7):
  FnH Tryz.prog 40 [.ptr 5 0,.dg 6 (Xb a)] (Qm b bad d) 6 [0,5] (.d (.it .i64 0)) (Qm true a.bad (z0f d)) 6:=by
 have hF:=QNL b bad a.bad d (by have:=h.n;omega) (by have:=ha.bad;omega)
 obtain⟨k,p,q,n,bb,ba⟩:=a
 dsimp only at*
 subst h7
 show FnH _ _ [.ptr 5 0,.dg 6 [.it .i64 7,.st p,.st q,.it .i64 n,.fs 1 (QD bb),.fs 1 (vI ba)]] _ _ _ _ _ _
 refine QR i40 fun T=>?_
 (repeat' ((conv=>whnf);first|refine CallE.inl ?_|((with_reducible refine QPB ?_);refine QX.mid (d7S ba d T) (YL QA mixed [0] (by decide+kernel) ?_) ?_)|((with_reducible refine QPC ?_);exact Wk.ren (fun k=>bif Nat.beq k 3 then 19 else k) (ai rfl trivial) (ai rfl (ai rfl (ai rfl (ai rfl (ai rfl (ai rfl (ai rfl (ai rfl (ai rfl trivial))))))))) rfl rfl)|with_reducible exact trivial|with_reducible refine Br.mk ?_ ?_|with_reducible refine CallI.inl QA i11 rfl ?_|with_reducible refine CallI.inl QA i50 rfl ?_|refine CallI.h hF [0,1,2,3,4] ?_|refine QB ?_|intro x hx hu|intro h|refine Spp.mk ?_ ?_))
 all_goals first|(exfalso;omega)|skip
 exact QS
theorem QMq{bad:List Int}{d:Dk}{x:Pln}(h:x.1≠0):runP bad d x=(d,x.1):=if_pos h
def QC9(x:Pln):Prop:=(∀s∈x.2,QEh s)∧x.2.length≤5
theorem QAk(e:Int):QC9 (e,[]):=⟨fun s hs=>(by cases hs),z7 _⟩
theorem QQx{e:Int}{s:Stp}(h:QEh s):QC9 (e,[s]):=⟨fun x hx=>(by rw[yy.1 hx];exact h),(by show 1≤5;omega)⟩
theorem QMr(f:Int→List UInt8)(p:List UInt8)(kind:Int):QC9 (mkP f p kind):=by
 unfold mkP mkQ
 split
 ·exact QAk _
 ·split
  ·exact QAk _
  ·split
   ·rename_i n k h1 h2
    have hn:=QI4 h1
    have hk:=QCI h2
    refine⟨fun s hs=>?_,by show 2≤5;omega⟩
    simp only[zm,xm,or_false]at hs
    rcases hs with rfl|rfl
    ·exact QD1 (n:Nat) (by omega) _ _ _
    ·exact XU (k:Nat) (by omega) _ _
   ·exact QAk _
theorem QPD(f:Int→List UInt8)(n:Int)(hn:0≤n∧n<16)(x:Ino)(hx:RI x)(off:Int)(c:List UInt8):QC9 (QC6 f n x off c):=by
 unfold QC6
 split
 ·exact QAk _
 ·split
  ·exact QAk _
  ·split
   ·exact QAk _
   ·have hfr:∀j∈frB f (nd (max x.z (off+c.length))-nd x.z),1≤j∧j≤24:=fun j hj=>QDN hj
    generalize frB f (nd (max x.z (off+c.length))-nd x.z)=fr at*
    have hyb:=fun i=>QGJ hx hfr (max x.z (off+c.length)) (had:=nd x.z) i
    generalize Xa x (max x.z (off+c.length)) (nd x.z) fr=y at*
    have h1:=QGK (f:=f) (n:=n) (x:=x) (y:=y) (had:=nd x.z) (off:=off) (b:=c) (k:=4) hyb
    have h2:= @QBg f n x y (nd x.z) off c 4
    refine⟨fun s hs=>?_,?_⟩
    ·rcases yd.1 hs with hs|hs
     ·exact h1 s hs
     ·split at hs
      ·cases hs
      ·rw [yy.1 hs];exact QD1 n hn _ _ _
    ·show ((_:List Stp)++(_:List Stp)).length≤5
     rw[zj]
     split
     ·simp only[xo];omega
     ·simp only[xd];omega
theorem QGB(f:Int→List UInt8)(p:List UInt8)(off:Int)(c:List UInt8):QC9 (J3 f p off c):=by
 unfold J3 QEj
 split
 ·exact QAk _
 ·exact QPD f _ (QA4 f p) _ (XO f p) _ _
theorem QPE(f:Int→List UInt8)(p:List UInt8)(c:List UInt8):QC9 (QCD f p c):=QGB f p _ c
theorem QPF(f:Int→List UInt8)(p:List UInt8)(tz:Int):QC9 (QBZ f p tz):=by
 unfold QBZ QOy
 split
 ·exact QAk _
 ·split
  ·exact QAk _
  ·split
   ·exact QAk _
   ·exact QQx (QD1 _ (QA4 f p) _ _ _)
theorem QPG(f:Int→List UInt8)(p:List UInt8):QC9 (QAz f p):=by
 have hk:=QBf (f:=f) (p:=p)
 unfold QAz QMV
 split
 ·exact QAk _
 ·split
  ·exact QAk _
  ·split
   ·exact QAk _
   ·exact QQx (XU _ (by omega) _ _)
theorem QPH(f:Int→List UInt8)(a b:Plc)(x:Ent)(ha:0≤a.k∧a.k<24)(hb:b.k<24):QC9 (QHR f a b x):=by
 unfold QHR
 split
 ·exact QQx (XU _ ha _ _)
 ·split
  ·exact QAk _
  ·rename_i k hk
   have h:0≤((k:Nat):Int)∧((k:Nat):Int)<24:=by
    split at hk
    ·have:=QCI hk;omega
    ·have:=za hk;omega
   refine⟨fun s hs=>?_,by show 3≤5;omega⟩
   simp only[zm,xm,or_false]at hs
   rcases hs with rfl|rfl|rfl
   ·exact XU _ h _ _
   ·trivial
   ·exact XU _ ha _ _
theorem QPI(f:Int→List UInt8)(p q:List UInt8):QC9 (QBa f p q):=by
 have ka:=QBf (f:=f) (p:=p)
 have kb:=QBf (f:=f) (p:=q)
 unfold QBa QMU
 repeat' split
 all_goals first|exact QAk _|exact QPH f _ _ _ (by omega) (by omega)
theorem QPJ(f:Int→List UInt8)(a:Act):QC9 (QA2 f a):=by
 unfold QA2
 repeat' split
 all_goals first|exact QMr .. |exact QGB .. |exact QPE .. |exact QPF .. |exact QPI .. |exact QPG .. |exact QAk _
theorem Fd.runP{bad:List Int}{d:Dk}{N:Nat}(h:Fd bad d N){x:Pln}(hx:QC9 x)(hM:N+5≤90000):Fd bad (Go.Proofs.YtikgcbioagmkkaaGreatDoor.runP bad d x).1 (N+5):=by
 unfold Go.Proofs.YtikgcbioagmkkaaGreatDoor.runP
 split
 ·exact h.mono (by omega) hM
 ·exact (Fd.run x.2 h (by have:=hx.2;omega) hx.1).mono (by have:=hx.2;omega) hM
theorem Fd.z0f{bad:List Int}{d:Dk}{N:Nat}(h:Fd bad d N){bad':List Int}(hb:bad'.length≤1000000):Fd bad' (Go.Proofs.YtikgcbioagmkkaaGreatDoor.z0f d) N:=
 ⟨h.s,h.w,h.r,⟨⟨W6 _,(by show(0:Int)≤N;omega)⟩,h.b.w,h.b.l,h.b.s,h.b.s0⟩,h.n,hb,h.ep,h.lg,h.hN⟩
theorem Fd.dk0{l:List (List UInt8)}(hl:Zx l)(hn:l.length=65):Fd [] (Go.Proofs.YtikgcbioagmkkaaGreatDoor.dk0 l) 0:=
 ⟨hl,fun w hw=>(by cases hw),fun w hw=>(by cases hw),⟨⟨W6 _,W6 _⟩,zt _,zt _,(by show l.length≤65;omega),(by show l.length≠0;omega)⟩,hn,z7 _,⟨(by show-((0:Nat):Int)≤0;omega),(by show(0:Int)≤((0:Nat):Int);omega)⟩,⟨[],rfl,fun e he=>(by cases he)⟩,by decide⟩
def kA:List UInt8:=[47,97]
def kX:List UInt8:=[120,121]
def k0:Dk:=dk0 Je
def k1:Dk:=(runP [] k0 (mkP (rdS (some k0)) kA 1)).1
def k2:Dk:=(runP [] k1 (J3 (rdS (some k1)) kA 0 kX)).1
theorem QUN:JN (Yx (some k0)):=by decide+kernel
theorem QUO:(runP [] k0 (mkP (rdS (some k0)) kA 1)).2=0:=by decide+kernel
theorem QUP:(runP [] k1 (J3 (rdS (some k1)) kA 0 kX)).2=0:=by decide+kernel
theorem QUQ:QA0 (rdS (some k2)) kA=(kX,0):=by decide+kernel
theorem QSZ:(ZJ (rdS (some k2)) kA).2.1.z=2∧(ZJ (rdS (some k2)) kA).2.2=0:=by decide+kernel
theorem QUR:(ZI (rdS (some k2)) kA).2=0:=by decide+kernel
theorem QUS:(ZI (rdS (some k2)) [47,98]).2≠0:=by decide+kernel
theorem QSa:(mkP (rdS (some k2)) kA 1).1=5:=by decide+kernel
theorem QSb:(QAz (rdS (some k2)) [47,99]).1=4:=by decide+kernel
theorem QSc:k2.wait.length=4∧(k2.wait[3]?).map Wr.a=some 2:=by decide+kernel
def NoF(F:D):Prop:=F= .ot (.pointer none)∨F= .fp 1 [.ot (.pointer none)]
theorem QBc{F:D}(h:NoF F):FnC Tryz.prog 50 [.d F] (.d (.bl true)):=by
 rcases h with rfl|rfl
 all_goals (
  refine QL i50 ?_
  (repeat' ((conv=>whnf);first|refine QB ?_|intro x hx hu|intro h|refine Spp.mk ?_ ?_))
  rfl)
theorem QBd{F:D}(h:NoF F)(p:List UInt8):FnC Tryz.prog 103 [.d F,.d (.st p)] (.tup [.d (.it .i64 0),.dg 6 [.it .i64 0,.it .i64 0,.it .i64 0,.it .i64 0,.it .i64 0,.it .i64 0],.d (.it .i64 1)]):=by
 have hn:=QBc h
 refine QL QOM ?_
 (repeat' ((conv=>whnf);first|refine cEk hn ?_|refine CallE.inl ?_|refine QB ?_|intro x hx hu|intro h|refine Spp.mk ?_ ?_))
 rfl
theorem QMs{F:D}(h:NoF F)(p:List UInt8):FnC Tryz.prog 70 [.d F,.d (.st p)] (.tup [.d (.fs 1 []),.d (.it .i64 1)]):=by
 have hn:=QBd h p
 refine QL i70 ?_
 (repeat' ((conv=>whnf);first|refine cEk hn ?_|refine CallE.inl ?_|refine QB ?_|intro x hx hu|intro h|refine Spp.mk ?_ ?_))
 rfl
theorem QHX{F:D}(h:NoF F)(p:List UInt8):FnC Tryz.prog 71 [.d F,.d (.st p)] (.tup [.d (.it .i64 0),.d (.it .i64 1)]):=by
 have hn:=QBd h p
 refine QL i71 ?_
 (repeat' ((conv=>whnf);first|refine cEk hn ?_|refine CallE.inl ?_|refine QB ?_|intro x hx hu|intro h|refine Spp.mk ?_ ?_))
 rfl
theorem QDw{F:D}(h:NoF F)(p:List UInt8):FnC Tryz.prog 72 [.d F,.d (.st p)] (.d (.bl false)):=by
 have hn:=QBc h
 refine QL i72 ?_
 (repeat' ((conv=>whnf);first|refine cEk hn ?_|refine CallE.inl ?_|refine QB ?_|intro x hx hu|intro h|refine Spp.mk ?_ ?_))
 rfl
theorem QHY{F:D}(h:NoF F):FnC Tryz.prog 11 [.d F] (.d (.ot (.pointer none))):=by
 have hn:=QBc h
 refine QL i11 ?_
 (repeat' ((conv=>whnf);first|refine cEk hn ?_|refine CallE.inl ?_|refine QB ?_|intro x hx hu|intro h|refine Spp.mk ?_ ?_))
 rfl
theorem QMt{F:D}(h:NoF F)(k:Int)(hk:0≤k∧k≤6):FnC Tryz.prog 40 [.d F,.dg 6 [.it .i64 k,.st [],.st [],.it .i64 0,.fs 1 [],.fs 1 []]] (.d (.it .i64 1)):=by
 have hn:=QBc h
 have hf:=QBd h []
 have c:k=0∨k=1∨k=2∨k=3∨k=4∨k=5∨k=6:=by omega
 rcases c with rfl|rfl|rfl|rfl|rfl|rfl|rfl
 all_goals (
  refine QL i40 ?_
  (repeat' ((conv=>whnf);first|refine cEk hn ?_|refine cEk hf ?_|refine CallE.inl ?_|with_reducible refine CallI.inl QA i47 rfl ?_|with_reducible refine CallI.inl QA i89 rfl ?_|with_reducible refine CallI.inl QA QIe rfl ?_|with_reducible refine CallI.inl QA i69 rfl ?_|with_reducible refine CallI.inl QA i48 rfl ?_|with_reducible refine CallI.inl QA i90 rfl ?_|with_reducible refine CallI.inl QA i91 rfl ?_|with_reducible refine CallI.inl QA i73 rfl ?_|refine QB ?_|intro x hx hu|intro h|refine Spp.mk ?_ ?_))
  rfl)
theorem frN{mem:List (Nat×Ob)}{n:Nat}(h:Sy.look n mem=some (.cells 1 [.d (.ot (.pointer none))])):FrA mem [.ptr n 0] [.fp 1 [.ot (.pointer none)]]:=
 FrA.fp n 0 1 1 _ [.ot (.pointer none)] [] [] h (zt _) rfl (.pl _ _ _ _ rfl .nil) .nil
theorem QLC:FnC Tryz.prog 32 [] (.d (.bl true)):=by
 have n1:=XI 1
 have r1:=QMs (.inl rfl) [47,97]
 have s1:=QHX (.inl rfl) [47,97]
 have e1:=QDw (.inl rfl) [47]
 have d1:=QHY (.inl rfl)
 have f2:=QBd (.inr rfl) [47,97]
 have s2:=QHX (.inr rfl) [47,97]
 have e2:=QDw (.inr rfl) [47]
 have d2:=QHY (.inr rfl)
 refine QL i32 ?_
 (repeat' ((conv=>whnf);first|with_reducible refine ZA.unroll QA 8 ?_|refine cEk n1 ?_|refine cEk (QMt (.inl rfl) _ (by omega)) ?_|refine cEk r1 ?_|refine cEk s1 ?_|refine cEk e1 ?_|refine cEk d1 ?_|refine CallE.inl ?_|refine CallI.byR (YU.mkF ⟨_,_,ArF.fr _ _ _ _ (frN (by with_unfolding_all exact rfl)) (ArF.pl _ _ _ _ rfl ArF.nil),(QMt (.inr rfl) _ (by omega)),(by with_unfolding_all exact rfl),?_⟩)|with_reducible refine CallI.inl QA i70 rfl ?_|refine CallI.byR (YU.mkF ⟨_,_,ArF.fr _ _ _ _ (frN (by with_unfolding_all exact rfl)) (ArF.pl _ _ _ _ rfl ArF.nil),f2,(by with_unfolding_all exact rfl),?_⟩)|refine CallI.byR (YU.mkF ⟨_,_,ArF.fr _ _ _ _ (frN (by with_unfolding_all exact rfl)) (ArF.pl _ _ _ _ rfl ArF.nil),s2,(by with_unfolding_all exact rfl),?_⟩)|refine CallI.byR (YU.mkF ⟨_,_,ArF.fr _ _ _ _ (frN (by with_unfolding_all exact rfl)) (ArF.pl _ _ _ _ rfl ArF.nil),e2,(by with_unfolding_all exact rfl),?_⟩)|refine CallI.byR (YU.mkF ⟨_,_,ArF.fr _ _ _ _ (frN (by with_unfolding_all exact rfl)) ArF.nil,d2,(by with_unfolding_all exact rfl),?_⟩)|refine QB ?_|intro x hx hu|intro h|refine Spp.mk ?_ ?_))
 all_goals first|(exfalso;omega)|skip
 rfl
theorem QMu{b:Bool}{bad:List Int}{d:Dk}{N:Nat}(h:Fd bad d N)(hw0:d.wait≠[]):FnH Tryz.prog 16 [.ptr 0 0] (Yk b bad d) 5 [0] (.d (.fs 36 (d.wait.map Qn))) (Yk b bad d) 5:=by
 have hn:FnC Tryz.prog 57 [.d (Qd (some d))] (.d (.bl false)):=by
  have:=QAJ (some d)
  rw[show QCj (some d)=false from decide_eq_false h.b.s0]at this
  exact this
 have hne:(d.wait.map Qn).isEmpty=false:=by
  cases hw:d.wait with
  |nil=>exact absurd hw hw0
  |cons=>rfl
 have hwl:(d.wait.map Qn).length≤90000:=by rw[zb];have:=h.b.w;have:=h.hN;omega
 have hwl2:d.wait.length≤90000:=by have:=h.b.w;have:=h.hN;omega
 refine QR i16 fun T=>?_
 (repeat' ((conv=>whnf);first|refine CallE.inl ?_|with_reducible refine Spl.no hne ?_|refine rFd hn ?_|with_reducible refine CallI.inl QA i58 rfl ?_|refine QB ?_|intro x hx hu|intro h|refine Spp.mk ?_ ?_))
 all_goals first|(exfalso;omega)|skip
 refine⟨⟨[(2,.d (.fs 36 (d.wait.map Qn)))],Yk b bad d++Qs 5 [0] T,30⟩,Wk.vwL (ai (Vw.ts' rfl) trivial) (ai (VwO.same _) (ai (VwO.same _) (ai (VwO.same _) (ai (VwO.same _) (ai (VwO.same _) (ai (VwO.same _) (ai (VwO.same _) trivial))))))) rfl,rfl,(ai rfl (ai rfl (ai rfl (ai rfl (ai rfl trivial))))),(ai rfl (ai rfl trivial))⟩
theorem QLD{P:Program}{N:Nat}{o:Oper}{σ:S}{l:List AV}{K:S→Prop}(h:CallI P N o σ 69 l K):CallI P N o σ 69 l K:=h
theorem QLE{P:Program}{N:Nat}{o:Oper}{σ:S}{l:List AV}{K:S→Prop}(h:CallI P N o σ 70 l K):CallI P N o σ 70 l K:=h
theorem QMv{P:Program}{N:Nat}{o:Oper}{σ:S}{l:List AV}{K:S→Prop}(h:CallI P N o σ 16 l K):CallI P N o σ 16 l K:=h
theorem QMw{P:Program}{N:Nat}{o:Oper}{σ:S}{l:List AV}{K:S→Prop}(h:CallI P N o σ 47 l K):CallI P N o σ 47 l K:=h
theorem QMx{P:Program}{N:Nat}{o:Oper}{σ:S}{l:List AV}{K:S→Prop}(h:CallI P N o σ 73 l K):CallI P N o σ 73 l K:=h
def kS(d:Dk)(sl:List (Nat×AV)):S:=⟨sl,QHn 7 9 10 8 6 false [] d++[(19,.cells 1 [.ptr 7 0])],20⟩
theorem QI1:FnC Tryz.prog 29 [] (.d (.bl true)):=by
 have f0:Fd [] k0 0:=Fd.dk0 QP7 rfl
 have f1:Fd [] k1 5:=f0.runP (QMr ..) (by omega)
 have f2:Fd [] k2 10:=f1.runP (QGB ..) (by omega)
 have hF:FnH Tryz.prog 18 [.d (Q1 Je)] [] 0 [] (.tup [.ptr 7 0,.d (.it .i64 0)]) (QHn 7 9 10 8 6 false [] k0) 11:=QHo Je (by decide)
 have hM:=QD5 (b:=false) f0 QUN
 have hC:FnH Tryz.prog 47 [.ptr 5 0,.d (.st kA)] (Qm false [] k0) 6 [0,5] (.d (.it .i64 0)) (Qm false [] k1) 6:=by
  have:=QCG (b:=false) f0 kA (by decide)
  rw[QUO]at this
  exact this
 have hW:FnH Tryz.prog 69 [.ptr 5 0,.d (.st kA),.d (.it .i64 0),.d (.fs 1 (QD kX))] (Qm false [] k1) 6 [0,5] (.d (.it .i64 0)) (Qm false [] k2) 6:=by
  have:=QHW (b:=false) f1 kA (by decide) 0 kX (by decide)
  rw[QUP]at this
  exact this
 have hR:FnH Tryz.prog 70 [.ptr 5 0,.d (.st kA)] (Qm false [] k2) 6 [0,5] (.tup [.d (.fs 1 (QD kX)),.d (.it .i64 0)]) (Qm false [] k2) 6:=by
  have:=QHl (b:=false) f2 kA (by decide)
  rw[QUQ]at this
  exact this
 have hS:FnC Tryz.prog 71 [.d (.fp 1 [Qd (some k2)]),.d (.st kA)] (.tup [.d (.it .i64 2),.d (.it .i64 0)]):=by
  have:=QJ4 k2 f2.ok kA (by decide)
  rw[QSZ.1,QSZ.2]at this
  exact this
 have hEa:FnC Tryz.prog 72 [.d (.fp 1 [Qd (some k2)]),.d (.st kA)] (.d (.bl true)):=by
  have:=QCF k2 f2.ok kA (by decide)
  rw[decide_eq_true QUR]at this
  exact this
 have hEb:FnC Tryz.prog 72 [.d (.fp 1 [Qd (some k2)]),.d (.st [47,98])] (.d (.bl false)):=by
  have:=QCF k2 f2.ok [47,98] (by decide)
  rw[decide_eq_false QUS]at this
  exact this
 have hC2:FnH Tryz.prog 47 [.ptr 5 0,.d (.st kA)] (Qm false [] k2) 6 [0,5] (.d (.it .i64 5)) (Qm false [] k2) 6:=by
  have:=QCG (b:=false) f2 kA (by decide)
  rw[QMq (by rw[QSa];decide),QSa]at this
  exact this
 have hU:FnH Tryz.prog 73 [.ptr 5 0,.d (.st [47,99])] (Qm false [] k2) 6 [0,5] (.d (.it .i64 4)) (Qm false [] k2) 6:=by
  have:=QFM (b:=false) f2 [47,99] (by decide)
  rw[QMq (by rw[QSb];decide),QSb]at this
  exact this
 obtain⟨w0,w1,w2,w3,hww,hw3⟩:∃w0 w1 w2 w3,k2.wait=[w0,w1,w2,w3]∧w3.a=2:=by
  have h1:=QSc.1
  have h2:=QSc.2
  generalize k2.wait=l at h1 h2
  match l,h1,h2 with
  |[w0,w1,w2,w3],_,h2=>exact⟨w0,w1,w2,w3,rfl,za h2⟩
 have hWt:=QMu (b:=false) f2 (by rw[hww];simp)
 rw[hww]at hWt
 obtain⟨g3,hg3⟩:=Zg (f2.w w3 (by rw[hww];simp))
 obtain⟨a3,s3,t3,i3,e3⟩:=w3
 dsimp only at hg3 hw3
 subst hg3
 subst hw3
 replace hWt:FnH Tryz.prog 16 [.ptr 0 0] (Yk false [] k2) 5 [0] (.d (.fs 36 [Qn w0,Qn w1,Qn w2,Qn ⟨2,Qx g3,t3,i3,e3⟩])) (Yk false [] k2) 5:=hWt
 have hkX:QD kX=[[.it .u8 120],[.it .u8 121]]:=rfl
 rw[hkX]at hW hR
 have n0:=XI 0
 have n5:=XI 5
 have n4:=XI 4
 have hE:=QMP
 clear hww f0 f1 f2
 generalize k0=d0 at*
 generalize k1=d1 at*
 generalize k2=d2 at*
 generalize Q1 Je=E at*
 refine QL i29 ?_
 (repeat' ((conv=>whnf);first|((with_reducible refine QB0 ?_);refine JD.vec ?_)|((with_reducible refine JF ?_);refine OpX.conv QA rfl rfl (by with_unfolding_all exact rfl) (by with_unfolding_all exact rfl) (by with_unfolding_all exact rfl) (bll rfl) (by with_unfolding_all exact rfl) rfl (by with_unfolding_all exact rfl) rfl ?_)|refine cEk hE ?_|refine cEk n0 ?_|refine cEk n5 ?_|refine cEk n4 ?_|refine CallE.inl ?_|refine CallI.byH hF [] rfl ⟨rfl,by decide,by with_unfolding_all exact rfl⟩ trivial rfl rfl ?_|refine CallI.byH hM [7,9,10,8,6] (by with_unfolding_all exact rfl) ⟨rfl,by decide,by with_unfolding_all exact rfl⟩ (ai rfl (ai rfl (ai rfl (ai rfl (ai rfl trivial))))) rfl rfl ?_|refine CallI.byH hC [7,9,10,8,6,19] (by with_unfolding_all exact rfl) ⟨rfl,by decide,by with_unfolding_all exact rfl⟩ (ai rfl (ai rfl (ai rfl (ai rfl (ai rfl (ai rfl trivial)))))) rfl rfl ?_|((with_reducible refine QLD ?_);refine CallI.wk (τ:=kS d1 [(1,.ptr 7 0),(3,.ptr 19 0),(33,.d (.it .i64 0)),(34,.ptr 19 0),(36,.d (.fs 1 [[.it .u8 120],[.it .u8 121]]))]) Wk.e ⟨_,_,_,_,_,_,rfl,rfl,rfl,rfl⟩ ?_;refine CallI.byH hW [7,9,10,8,6,19] (by with_unfolding_all exact rfl) ⟨rfl,by decide,by with_unfolding_all exact rfl⟩ (ai rfl (ai rfl (ai rfl (ai rfl (ai rfl (ai rfl trivial)))))) rfl rfl ?_)|((with_reducible refine QLE ?_);refine CallI.wk (τ:=kS d2 [(1,.ptr 7 0),(3,.ptr 19 0),(5,.d (.it .i64 0)),(6,.d (.it .i64 0)),(39,.ptr 19 0)]) Wk.e ⟨_,_,_,_,_,_,rfl,rfl,rfl,rfl⟩ ?_;refine CallI.byH hR [7,9,10,8,6,19] (by with_unfolding_all exact rfl) ⟨rfl,by decide,by with_unfolding_all exact rfl⟩ (ai rfl (ai rfl (ai rfl (ai rfl (ai rfl (ai rfl trivial)))))) rfl rfl ?_)|refine rFd hS ?_|refine rFd hEa ?_|refine rFd hEb ?_|((with_reducible refine QMw ?_);refine CallI.wk (τ:=kS d2 [(3,.ptr 19 0),(11,.d (.fs 36 [Qn w0,Qn w1,Qn w2,Qn ⟨2,Qx g3,t3,i3,e3⟩])),(80,.d (.bl true)),(81,.ptr 19 0)]) Wk.e ⟨_,_,_,_,_,_,rfl,rfl,rfl,rfl⟩ ?_;refine CallI.byH hC2 [7,9,10,8,6,19] (by with_unfolding_all exact rfl) ⟨rfl,by decide,by with_unfolding_all exact rfl⟩ (ai rfl (ai rfl (ai rfl (ai rfl (ai rfl (ai rfl trivial)))))) rfl rfl ?_)|((with_reducible refine QMx ?_);refine CallI.wk (τ:=kS d2 [(3,.ptr 19 0),(11,.d (.fs 36 [Qn w0,Qn w1,Qn w2,Qn ⟨2,Qx g3,t3,i3,e3⟩])),(87,.d (.bl true)),(88,.ptr 19 0)]) Wk.e ⟨_,_,_,_,_,_,rfl,rfl,rfl,rfl⟩ ?_;refine CallI.byH hU [7,9,10,8,6,19] (by with_unfolding_all exact rfl) ⟨rfl,by decide,by with_unfolding_all exact rfl⟩ (ai rfl (ai rfl (ai rfl (ai rfl (ai rfl (ai rfl trivial)))))) rfl rfl ?_)|((with_reducible refine QMv ?_);refine CallI.wk (τ:=kS d2 [(1,.ptr 7 0),(3,.ptr 19 0),(5,.d (.it .i64 0)),(6,.d (.it .i64 0)),(7,.d (.fs 1 [[.it .u8 120],[.it .u8 121]])),(8,.d (.it .i64 0)),(9,.d (.it .i64 2)),(10,.d (.it .i64 0)),(48,.ptr 7 0)]) Wk.e ⟨_,_,_,_,_,_,rfl,rfl,rfl,rfl⟩ ?_;refine CallI.byH hWt [7,9,10,8,6] (by with_unfolding_all exact rfl) ⟨rfl,by decide,by with_unfolding_all exact rfl⟩ (ai rfl (ai rfl (ai rfl (ai rfl (ai rfl trivial))))) rfl rfl ?_)|((with_reducible refine QNH ?_);refine⟨kX,rfl,?_⟩)|refine QB ?_|intro x hx hu|intro h|refine Spp.mk ?_ ?_))
 all_goals first|rfl|exact ZL (by decide)
theorem QMy{b:Bool}{bad:List Int}{d:Dk}{N:Nat}(h:Fd bad d N)(hl:d.log=[]):FnH Tryz.prog 27 [.ptr 0 0] (Yk b bad d) 5 [0] (.d (.fs 38 [])) (Yk b bad d) 5:=by
 have hn:FnC Tryz.prog 57 [.d (Qd (some d))] (.d (.bl false)):=by
  have:=QAJ (some d)
  rw[show QCj (some d)=false from decide_eq_false h.b.s0]at this
  exact this
 obtain⟨nx,sf,wt,lg,ep⟩:=d
 dsimp only at hl
 subst hl
 refine QR i27 fun T=>?_
 (repeat' ((conv=>whnf);first|refine CallE.inl ?_|with_reducible refine ZA.unroll QA 1 ?_|refine rFk hn ?_|with_reducible refine CallI.inl QA i67 rfl ?_|refine QB ?_|intro x hx hu|intro h|refine Spp.mk ?_ ?_))
 all_goals first|(exfalso;omega)|skip
 all_goals (
  conv=>whnf
  first
  |exact⟨⟨[(2,.d (.fs 38 []))],Yk b bad ⟨nx,sf,wt,[],ep⟩++Qs 5 [0] T,40⟩,Wk.vwL (ai (Vw.ts' rfl) trivial) (ai (VwO.same _) (ai (VwO.same _) (ai (VwO.same _) (ai (VwO.same _) (ai (VwO.same _) (ai (VwO.same _) (ai (VwO.same _) trivial))))))) rfl,rfl,(ai rfl (ai rfl (ai rfl (ai rfl (ai rfl trivial))))),(ai rfl (ai rfl trivial))⟩
  |exact⟨⟨[(2,.d (.fs 38 []))],Yk b bad ⟨nx,sf,wt,[],ep⟩++Qs 5 [0] T,40⟩,Wk.vwL (ai (Vw.eq rfl) trivial) (ai (VwO.same _) (ai (VwO.same _) (ai (VwO.same _) (ai (VwO.same _) (ai (VwO.same _) (ai (VwO.same _) (ai (VwO.same _) trivial))))))) rfl,rfl,(ai rfl (ai rfl (ai rfl (ai rfl (ai rfl trivial))))),(ai rfl (ai rfl trivial))⟩)
def QI2(a:Act):Bool:=decide (a.p.length≤100∧a.q.length≤100∧a.b.length≤300∧a.bad.length≤30)
def QEn(l:List Act)(m:Int):Bool:=(l.take 100).all QI2&&decide ((l.length:Int)≤m)
theorem QMz(l:List Act)(m:Int):FnC Tryz.prog 7 [.d (.fs 6 (l.map Xb)),.d (.it .i64 m)] (.d (.bl (QEn l m))):=by
 have hl:(l.map Xb).length=l.length:=zb ..
 have hno:=fun(k:Nat) (a:Act) (hk:k<100) (hx:l[k]? =some a) (h:QI2 a=false)=>show QEn l m=false from by
  unfold QEn
  rw[Wp]
  left
  rw[qn]
  exact⟨a,yj (i:=k) (by rw[x4,if_pos hk];exact hx),by simp[h]⟩
 have hyes:=fun(k:Nat) (hk:k≤l.length) (h1:∀j:Nat,j<k→∀a,l[j]? =some a→QI2 a=true) (h2:¬(k<l.length∧k<100))=>show QEn l m=decide ((l.length:Int)≤m)from by
  unfold QEn
  have:(l.take 100).all QI2=true:=by
   rw[ze]
   intro a ha
   obtain⟨j,hj,rfl⟩:=vu ha
   rw[z1]at hj
   exact h1 j (by omega) _ (by rw[xj,zi (by omega)])
  rw[this,vy]
 generalize QEn l m=r at*
 refine QL i7 ?_
 (repeat' ((conv=>whnf);first|refine QB ?_|intro x hx hu|intro h|refine Spp.mk ?_ ?_))
 conv=>whnf
 refine QU QA (fun k:Nat=>k≤l.length∧k≤100∧∀j:Nat,j<k→∀a,l[j]? =some a→QI2 a=true) (fun k=>⟨[(0,.d (.fs 6 (l.map Xb))),(1,.d (.it .i64 m)),(5,.d (.it .i64 (k:Nat)))],[],0⟩) (fun k=>l.length-k) 0 ⟨z7 _,z7 _,fun j hj=>by omega⟩ ⟨(ai rfl (ai rfl (ai rfl trivial))),trivial,rfl⟩ ?_
 intro k hk0
 have hk:=hk0.1
 have hk1:=hk0.2.1
 have hk2:=hk0.2.2
 by_cases hkl:k<l.length∧k<100
 ·obtain ⟨a,hx⟩:=Qy hkl.1
  have hn:=hno k a hkl.2 hx
  have hb1:(QD a.b).length=a.b.length:=zb ..
  have hb2:(vI a.bad).length=a.bad.length:=zb ..
  have hkl1:=hkl.1
  have hkl2:=hkl.2
  by_cases hla:QI2 a=true
  ·have h4:=of_decide_eq_true hla
   obtain⟨q1,q2,q3,q4⟩:=h4
   have hnx:∀j:Nat,j<k+1→∀a,l[j]? =some a→QI2 a=true:=fun j hj a' ha'=>by
    by_cases hjk:j=k
    ·rw [hjk,hx]at ha'
     obtain rfl:=za ha'
     exact hla
    ·exact hk2 j (by omega) a' ha'
   (repeat' ((conv=>whnf);first|with_reducible refine Zu hx ?_|refine QB ?_|intro x hx hu|intro h|refine Spp.mk ?_ ?_))
   all_goals first|(exfalso;omega)|skip
   exact again (k+1) ⟨by omega,by omega,hnx⟩ (by first|omega|(dsimp only;omega)) (ai rfl (ai rfl (ai (QQ (by omega)) trivial))) trivial rfl
  ·have h4:¬(a.p.length≤100∧a.q.length≤100∧a.b.length≤300∧a.bad.length≤30):=fun h=>hla (decide_eq_true h)
   have hr:=hn (by simpa using hla)
   (repeat' ((conv=>whnf);first|with_reducible refine Zu hx ?_|refine QB ?_|intro x hx hu|intro h|refine Spp.mk ?_ ?_))
   all_goals first|(exfalso;omega)|exact ZL hr.symm
 ·have hr:=hyes k hk hk2 hkl
  (repeat' ((conv=>whnf);first|refine QB ?_|intro x hx hu|intro h|refine Spp.mk ?_ ?_))
  all_goals first|(exfalso;omega)|skip
  all_goals exact ZL (by rw[hr,hl])
structure LSt where
 i:Nat
 b:Bool
 bad:List Int
 d:Dk
def QUT(L:List (List D)):LSt→S|⟨i,b,bad,d⟩=>⟨[(1,.d (.fs 6 L)),(5,.ptr 0 0),(7,.ptr 6 0),(9,.ptr 5 0),(12,.d (.it .i64 (i:Nat)))],Qm b bad d++[(6,rOb bad d)],7⟩
theorem YW{P:Program}{ti:Nat→Option Ty}{N:Nat}{ops:List Oper}{σ:S}{K:S→Prop}(h:QX P ti N 32 ops σ K):QX P ti N 32 ops σ K:=h
theorem QJ8{P:Program}{ti:Nat→Option Ty}{N:Nat}{ops:List Oper}{σ:S}{K:S→Prop}(h:QX P ti N 34 ops σ K):QX P ti N 34 ops σ K:=h
theorem QJ9{N:Nat}{σ τ:S}(h:Wk N σ τ):Wk N σ τ:=h
theorem QQy{l:List Act}(h:QEn l 30=true):l.length≤30∧∀a∈l,QMo a:=by
 unfold QEn at h
 rw[zf,decide_eq_true_eq,ze]at h
 refine⟨by omega,fun a ha=>?_⟩
 have:=of_decide_eq_true (h.1 a (by rw[yb (by omega)];exact ha))
 exact⟨this.1,this.2.1,this.2.2.1,this.2.2.2⟩
theorem QM0{l:List (List D)}(h:QMN l):l=[]∨∃es:List Evt,es≠[]∧l=es.map X9∧∀e∈es,e.w.s.length=32∧e.t.length≤1000:=by
 obtain⟨es,rfl,h2⟩:=h
 cases es with
 |nil=>exact .inl rfl
 |cons e t=>exact .inr ⟨e::t,by simp,rfl,h2⟩
theorem QM1(image:List (List UInt8))(hm:Zx image)(acts:List Act):FnC Tryz.prog 5 [.d (Q1 image),.d (.fs 6 (acts.map Xb))] (.d (.bl true)):=by
 have hK:=QI1
 have hL:=QMz acts 30
 have hil:(image.map QJ).length=image.length:=zb ..
 have hal:(acts.map Xb).length=acts.length:=zb ..
 by_cases c1:image.length>200
 ·refine QL i5 ?_
  (repeat' ((conv=>whnf);first|refine cEk hL ?_|refine cEk hK ?_|refine CallE.inl ?_|refine QB ?_|intro x hx hu|intro h|refine Spp.mk ?_ ?_))
  all_goals first|(exfalso;omega)|rfl
 by_cases c2:QEn acts 30=true
 case neg=>
  rw[show QEn acts 30=false by simpa using c2]at hL
  refine QL i5 ?_
  (repeat' ((conv=>whnf);first|refine cEk hL ?_|refine cEk hK ?_|refine CallE.inl ?_|refine QB ?_|intro x hx hu|intro h|refine Spp.mk ?_ ?_))
  all_goals first|(exfalso;omega)|rfl
 obtain⟨hl30,hlt⟩:=QQy c2
 rw[c2]at hL
 have n0:=XI 0
 have n1:=XI 1
 have n8:=XI 8
 have hNb:=QLC
 by_cases c3:1≤image.length∧image.length≤65
 case neg=>
  have hF:=QNM image c3
  have hG:=QNO image c3
  have hMt:FnC Tryz.prog 20 [.d (.ot (.pointer none))] (.tup [.d (.ot (.pointer none)),.d (.it .i64 1)]):=by
   have h:=QHT none trivial
   rw[show QCE none= .tup [.d (.ot (.pointer none)),.d (.it .i64 1)] by unfold QCE;rw[if_neg (by decide)];rfl]at h
   exact h
  refine QL i5 ?_
  (repeat' ((conv=>whnf);first|refine cEk hL ?_|refine cEk hK ?_|refine cEk hF ?_|refine cEk hG ?_|refine cEk hMt ?_|refine cEk n1 ?_|refine cEk hNb ?_|refine CallE.inl ?_|with_reducible refine CallI.inl QA i30 rfl ?_|refine QB ?_|intro x hx hu|intro h|refine Spp.mk ?_ ?_))
  all_goals first|(exfalso;omega)|rfl
 have hd0:Xg (some (dk0 image)):=⟨hm,fun w hw=>(by cases hw),c3.2,z7 _⟩
 have hF:=QHo image c3
 have hG:FnH Tryz.prog 19 [.d (Q1 image)] [] 0 [] (.tup [.ptr 3 0,.d (.it .i64 0)]) [(3,rOb [] (dk0 image))] 4:=QNT image hm c3
 have hrM:=QI9 (bad:=[]) hd0 (fun w hw=>(by cases hw)) (by show image.length≠0;omega)
 have hi0:Yx (some (dk0 image))=image:=QNU (dk0 image)
 replace hrM:FnH Tryz.prog 30 [.ptr 0 0] (Qp [] (dk0 image)) 1 [0] (.d (.it .i64 (if JN image then 0 else 8))) (Qp [] (dk0 image)) 1:=hrM
 have hNF:FnH Tryz.prog 18 [.d (Q1 image)] [] 0 [] (.tup [.ptr 7 0,.d (.it .i64 0)]) (QHn 7 9 10 8 6 false [] (dk0 image)) 11:=hF
 clear hF
 by_cases c4:JN image
 case neg=>
  have hMt:=QHT (some (dk0 image)) hd0
  rw[show QCE (some (dk0 image))= .tup [.d (.ot (.pointer none)),.d (.it .i64 8)] by
   unfold QCE
   rw[hi0,if_neg c4,if_neg (fun h=>by have h':image=[]:=h;rw[h']at c3;simp at c3)]]at hMt
  rw[if_neg c4]at hrM
  generalize dk0 image=d0 at*
  refine QL i5 ?_
  (repeat' ((conv=>whnf);first|refine cEk hL ?_|refine cEk hK ?_|refine cEk n8 ?_|refine cEk hNb ?_|refine CallE.inl ?_|refine CallI.byH hNF [] rfl ⟨rfl,by decide,by with_unfolding_all exact rfl⟩ trivial rfl rfl ?_|refine CallI.byH hG [] rfl ⟨rfl,by decide,by with_unfolding_all exact rfl⟩ trivial rfl rfl ?_|refine rFk hMt ?_|refine CallI.h hrM [14] ?_|refine QB ?_|intro x hx hu|intro h|refine Spp.mk ?_ ?_))
  all_goals first|(exfalso;omega)|rfl
 have f0:Fd [] (dk0 image) 0:=Fd.dk0 hm c4.1
 have hMt:=QD5 (b:=false) f0 (by rw[hi0];exact c4)
 rw[if_pos c4]at hrM
 generalize dk0 image=d0 at*
 refine QL i5 ?_
 (repeat' ((conv=>whnf);first|refine cEk hL ?_|refine cEk hK ?_|refine cEk n0 ?_|refine CallE.inl ?_|refine CallI.byH hNF [] rfl ⟨rfl,by decide,by with_unfolding_all exact rfl⟩ trivial rfl rfl ?_|refine CallI.byH hG [] rfl ⟨rfl,by decide,by with_unfolding_all exact rfl⟩ trivial rfl rfl ?_|refine CallI.h hMt [7,9,10,8,6] ?_|refine CallI.h hrM [14] ?_|refine QB ?_|intro x hx hu|intro h|refine Spp.mk ?_ ?_))
 all_goals first|(exfalso;omega)|skip
 conv=>whnf
 refine ZB QA (fun s:LSt=>s.i≤acts.length∧Fd s.bad s.d (5*s.i)) (QUT (acts.map Xb)) (fun s=>acts.length-s.i) ⟨0,false,[],d0⟩ ⟨z7 _,f0⟩ (Wk.ren (fun j=>match j with|0=>7|1=>9|2=>10|3=>8|4=>6|5=>23|6=>14|j=>j) (ai rfl (ai rfl (ai rfl (ai rfl (ai rfl trivial))))) (ai rfl (ai rfl (ai rfl (ai rfl (ai rfl (ai rfl (ai rfl trivial))))))) rfl rfl) ?_
 intro⟨i,b,bad,d⟩ hs
 have hi:=hs.1
 have hfd:=hs.2
 dsimp only at hi hfd
 clear hs hNF hG hMt hrM hi0 f0 hK hL
 by_cases hil:i<acts.length
 ·obtain ⟨a,hx⟩:=Qy hil
  have ha:=hlt a (yj hx)
  have hp:=ha.p
  have hq:=ha.q
  have hbb:=ha.b
  have hba:=ha.bad
  have hfe:∀m:Int,0≤m→imS (QT d) m=rdS (some d) m:=fun m h0=>(QIt d m h0).symm
  by_cases h7:a.k=7
  ·have hDo:=QQw (b:=b) hfd a ha h7
   have g:=QNN bad a.bad (by omega) d
   have hf':=hfd.z0f (bad':=a.bad) (by omega)
   obtain⟨k,p,q,n,bb,ba⟩:=a
   dsimp only at*
   replace g:FnH Tryz.prog 39 [.ptr 0 0,.d (.fs 1 (vI ba))] (Qp bad d) 1 [0] (.tup []) (Qp ba (z0f d)) 1:=g
   subst h7
   (repeat' ((conv=>whnf);first|with_reducible refine Zu hx ?_|((with_reducible refine YW ?_);refine QX.wk (τ:=QEm (acts.map Xb) i 0 (QC8 b bad d (rOb ba (z0f d)) ⟨7,p,q,n,bb,ba⟩)) Wk.e (Jf ⟨7,p,q,n,bb,ba⟩ hp hq hDo hf' (acts.map Xb) i ?_))|refine CallE.inl ?_|refine CallI.h g [6] ?_|refine QB ?_|intro x hx hu|intro h|refine Spp.mk ?_ ?_))
   all_goals first|(exfalso;omega)|skip
   exact⟨⟨i+1,true,ba,z0f d⟩,⟨hil,hf'.mono (by dsimp only;omega) (by dsimp only;omega)⟩,by first|omega|(dsimp only;omega),Wk.en ⟨ai rfl (ai rfl (ai rfl (ai rfl (ai (QQ (by omega)) trivial)))),(ai rfl (ai rfl (ai rfl (ai rfl (ai rfl (ai rfl (ai rfl trivial))))))),rfl⟩⟩
  ·have hDo:=QPA (b:=b) hfd a ha h7
   have hpl:=QPJ (rdS (some d)) a
   have hf':=hfd.runP hpl (by omega)
   obtain⟨R,hR⟩:∃R,runP bad d (QA2 (rdS (some d)) a)=R:=⟨_,rfl⟩
   rw[hR]at hDo hf'
   obtain⟨k,p,q,n,bb,ba⟩:=a
   dsimp only at*
   clear hpl
   by_cases k0:k=0
   ·subst k0
    have hact:QA2 (rdS (some d)) ⟨0,p,q,n,bb,ba⟩=mkP (rdS (some d)) p 1:=rfl
    have g:=QHk hfd p (by omega) 1
    rw[QMY hfe p 1,←hact,hR]at g
    (repeat' ((conv=>whnf);first|with_reducible refine Zu hx ?_|((with_reducible refine YW ?_);refine QX.wk (τ:=QEm (acts.map Xb) i R.2 (QC8 b bad d (rOb bad R.1) ⟨0,p,q,n,bb,ba⟩)) Wk.e (Jf ⟨0,p,q,n,bb,ba⟩ hp hq hDo hf' (acts.map Xb) i ?_))|refine CallE.inl ?_|refine CallI.h g [6] ?_|refine QB ?_|intro x hx hu|intro h|refine Spp.mk ?_ ?_))
    all_goals first|(exfalso;omega)|skip
    exact⟨⟨i+1,b,bad,R.1⟩,⟨hil,hf'⟩,by first|omega|(dsimp only;omega),Wk.en ⟨ai rfl (ai rfl (ai rfl (ai rfl (ai (QQ (by omega)) trivial)))),(ai rfl (ai rfl (ai rfl (ai rfl (ai rfl (ai rfl (ai rfl trivial))))))),rfl⟩⟩
   by_cases k1:k=1
   ·subst k1
    have hact:QA2 (rdS (some d)) ⟨1,p,q,n,bb,ba⟩=mkP (rdS (some d)) p 2:=rfl
    have g:=QHk hfd p (by omega) 2
    rw[QMY hfe p 2,←hact,hR]at g
    (repeat' ((conv=>whnf);first|with_reducible refine Zu hx ?_|((with_reducible refine YW ?_);refine QX.wk (τ:=QEm (acts.map Xb) i R.2 (QC8 b bad d (rOb bad R.1) ⟨1,p,q,n,bb,ba⟩)) Wk.e (Jf ⟨1,p,q,n,bb,ba⟩ hp hq hDo hf' (acts.map Xb) i ?_))|refine CallE.inl ?_|refine CallI.h g [6] ?_|refine QB ?_|intro x hx hu|intro h|refine Spp.mk ?_ ?_))
    all_goals first|(exfalso;omega)|skip
    exact⟨⟨i+1,b,bad,R.1⟩,⟨hil,hf'⟩,by first|omega|(dsimp only;omega),Wk.en ⟨ai rfl (ai rfl (ai rfl (ai rfl (ai (QQ (by omega)) trivial)))),(ai rfl (ai rfl (ai rfl (ai rfl (ai rfl (ai rfl (ai rfl trivial))))))),rfl⟩⟩
   by_cases k2:k=2
   ·subst k2
    have hact:QA2 (rdS (some d)) ⟨2,p,q,n,bb,ba⟩=J3 (rdS (some d)) p n bb:=rfl
    have g:=QJ7 hfd p (by omega) n bb (by omega)
    rw[QO4 hfe p n bb,←hact,hR]at g
    (repeat' ((conv=>whnf);first|with_reducible refine Zu hx ?_|((with_reducible refine YW ?_);refine QX.wk (τ:=QEm (acts.map Xb) i R.2 (QC8 b bad d (rOb bad R.1) ⟨2,p,q,n,bb,ba⟩)) Wk.e (Jf ⟨2,p,q,n,bb,ba⟩ hp hq hDo hf' (acts.map Xb) i ?_))|refine CallE.inl ?_|refine CallI.h g [6] ?_|refine QB ?_|intro x hx hu|intro h|refine Spp.mk ?_ ?_))
    all_goals first|(exfalso;omega)|skip
    exact⟨⟨i+1,b,bad,R.1⟩,⟨hil,hf'⟩,by first|omega|(dsimp only;omega),Wk.en ⟨ai rfl (ai rfl (ai rfl (ai rfl (ai (QQ (by omega)) trivial)))),(ai rfl (ai rfl (ai rfl (ai rfl (ai rfl (ai rfl (ai rfl trivial))))))),rfl⟩⟩
   by_cases k3:k=3
   ·subst k3
    have hact:QA2 (rdS (some d)) ⟨3,p,q,n,bb,ba⟩=QCD (rdS (some d)) p bb:=rfl
    have g:=QO8 hfd p (by omega) bb (by omega)
    rw[QO5 hfe p bb,←hact,hR]at g
    (repeat' ((conv=>whnf);first|with_reducible refine Zu hx ?_|((with_reducible refine YW ?_);refine QX.wk (τ:=QEm (acts.map Xb) i R.2 (QC8 b bad d (rOb bad R.1) ⟨3,p,q,n,bb,ba⟩)) Wk.e (Jf ⟨3,p,q,n,bb,ba⟩ hp hq hDo hf' (acts.map Xb) i ?_))|refine CallE.inl ?_|refine CallI.h g [6] ?_|refine QB ?_|intro x hx hu|intro h|refine Spp.mk ?_ ?_))
    all_goals first|(exfalso;omega)|skip
    exact⟨⟨i+1,b,bad,R.1⟩,⟨hil,hf'⟩,by first|omega|(dsimp only;omega),Wk.en ⟨ai rfl (ai rfl (ai rfl (ai rfl (ai (QQ (by omega)) trivial)))),(ai rfl (ai rfl (ai rfl (ai rfl (ai rfl (ai rfl (ai rfl trivial))))))),rfl⟩⟩
   by_cases k4:k=4
   ·subst k4
    have hact:QA2 (rdS (some d)) ⟨4,p,q,n,bb,ba⟩=QBZ (rdS (some d)) p n:=rfl
    have g:=QPZ hfd p (by omega) n
    rw[QOz hfe p n,←hact,hR]at g
    (repeat' ((conv=>whnf);first|with_reducible refine Zu hx ?_|((with_reducible refine YW ?_);refine QX.wk (τ:=QEm (acts.map Xb) i R.2 (QC8 b bad d (rOb bad R.1) ⟨4,p,q,n,bb,ba⟩)) Wk.e (Jf ⟨4,p,q,n,bb,ba⟩ hp hq hDo hf' (acts.map Xb) i ?_))|refine CallE.inl ?_|refine CallI.h g [6] ?_|refine QB ?_|intro x hx hu|intro h|refine Spp.mk ?_ ?_))
    all_goals first|(exfalso;omega)|skip
    exact⟨⟨i+1,b,bad,R.1⟩,⟨hil,hf'⟩,by first|omega|(dsimp only;omega),Wk.en ⟨ai rfl (ai rfl (ai rfl (ai rfl (ai (QQ (by omega)) trivial)))),(ai rfl (ai rfl (ai rfl (ai rfl (ai rfl (ai rfl (ai rfl trivial))))))),rfl⟩⟩
   by_cases k5:k=5
   ·subst k5
    have hact:QA2 (rdS (some d)) ⟨5,p,q,n,bb,ba⟩=QBa (rdS (some d)) p q:=rfl
    have g:=QO9 hfd (by omega) p q (by omega) (by omega)
    rw[QO2 hfe p q,←hact,hR]at g
    (repeat' ((conv=>whnf);first|with_reducible refine Zu hx ?_|((with_reducible refine YW ?_);refine QX.wk (τ:=QEm (acts.map Xb) i R.2 (QC8 b bad d (rOb bad R.1) ⟨5,p,q,n,bb,ba⟩)) Wk.e (Jf ⟨5,p,q,n,bb,ba⟩ hp hq hDo hf' (acts.map Xb) i ?_))|refine CallE.inl ?_|refine CallI.h g [6] ?_|refine QB ?_|intro x hx hu|intro h|refine Spp.mk ?_ ?_))
    all_goals first|(exfalso;omega)|skip
    exact⟨⟨i+1,b,bad,R.1⟩,⟨hil,hf'⟩,by first|omega|(dsimp only;omega),Wk.en ⟨ai rfl (ai rfl (ai rfl (ai rfl (ai (QQ (by omega)) trivial)))),(ai rfl (ai rfl (ai rfl (ai rfl (ai rfl (ai rfl (ai rfl trivial))))))),rfl⟩⟩
   by_cases k6:k=6
   ·subst k6
    have hact:QA2 (rdS (some d)) ⟨6,p,q,n,bb,ba⟩=QAz (rdS (some d)) p:=rfl
    have g:=QPY hfd p (by omega)
    rw[QO1 hfe p,←hact,hR]at g
    (repeat' ((conv=>whnf);first|with_reducible refine Zu hx ?_|((with_reducible refine YW ?_);refine QX.wk (τ:=QEm (acts.map Xb) i R.2 (QC8 b bad d (rOb bad R.1) ⟨6,p,q,n,bb,ba⟩)) Wk.e (Jf ⟨6,p,q,n,bb,ba⟩ hp hq hDo hf' (acts.map Xb) i ?_))|refine CallE.inl ?_|refine CallI.h g [6] ?_|refine QB ?_|intro x hx hu|intro h|refine Spp.mk ?_ ?_))
    all_goals first|(exfalso;omega)|skip
    exact⟨⟨i+1,b,bad,R.1⟩,⟨hil,hf'⟩,by first|omega|(dsimp only;omega),Wk.en ⟨ai rfl (ai rfl (ai rfl (ai rfl (ai (QQ (by omega)) trivial)))),(ai rfl (ai rfl (ai rfl (ai rfl (ai rfl (ai rfl (ai rfl trivial))))))),rfl⟩⟩
   have hact:QA2 (rdS (some d)) ⟨k,p,q,n,bb,ba⟩=(0,[]):=by unfold QA2;rw[if_neg k0,if_neg k1,if_neg k2,if_neg k3,if_neg k4,if_neg k5,if_neg k6]
   rw[hact,Z0]at hR
   replace hR:(d,(0:Int))=R:=hR
   subst hR
   (repeat' ((conv=>whnf);first|with_reducible refine Zu hx ?_|((with_reducible refine YW ?_);refine QX.wk (τ:=QEm (acts.map Xb) i 0 (QC8 b bad d (rOb bad d) ⟨k,p,q,n,bb,ba⟩)) Wk.e (Jf ⟨k,p,q,n,bb,ba⟩ hp hq hDo hf' (acts.map Xb) i ?_))|refine CallE.inl ?_|refine QB ?_|intro x hx hu|intro h|refine Spp.mk ?_ ?_))
   all_goals first|(exfalso;omega)|skip
   exact⟨⟨i+1,b,bad,d⟩,⟨hil,hf'⟩,by first|omega|(dsimp only;omega),Wk.en ⟨ai rfl (ai rfl (ai rfl (ai rfl (ai (QQ (by omega)) trivial)))),(ai rfl (ai rfl (ai rfl (ai rfl (ai rfl (ai rfl (ai rfl trivial))))))),rfl⟩⟩
 ·have hlg:=hfd.lg
  have hN:=hfd.hN
  have hlen:=hfd.b.l
  rcases QM0 hlg with hz|⟨es,hne,hz,hes⟩
  ·have g1:=QMy (b:=b) hfd hz
   have g2:=QKM [] (fun e he=>(by cases he)) (z7 _)
   rw[←hz]at g1
   replace g2:FnC Tryz.prog 26 [.d (.fs 38 d.log),.d (.fs 38 d.log)] (.d (.bl true)):=by rw[hz];exact g2
   (repeat' ((conv=>whnf);first|((with_reducible refine QJ8 ?_);refine QX.mid ⟨[(4,.d (.bl true))],[],7⟩ (YL QA mixed [0,1,1,1] (by decide+kernel) ?_) ?_)|((with_reducible refine QJ9 ?_);exact Wk.e)|with_reducible exact trivial|with_reducible refine Br.mk ?_ ?_|refine cEk g2 ?_|refine CallE.inl ?_|refine cPk g2 ?_|refine CallI.h g1 [0,1,2,3,4] ?_|refine QB ?_|intro x hx hu|intro h|refine Spp.mk ?_ ?_))
   all_goals first|(exfalso;omega)|rfl
  ·have hel:es.length≤100000:=by
    rw[hz,zb]at hlen;omega
   have g1:=QPb b bad d es hz (by have:=hfd.n;omega) hel hne hes
   have g2:=QKM es hes hel
   replace g2:FnC Tryz.prog 26 [.d (.fs 38 d.log),.d (.fs 38 d.log)] (.d (.bl true)):=by rw[hz];exact g2
   (repeat' ((conv=>whnf);first|((with_reducible refine QJ8 ?_);refine QX.mid ⟨[(4,.d (.bl true))],[],7⟩ (YL QA mixed [0,1,1,1] (by decide+kernel) ?_) ?_)|((with_reducible refine QJ9 ?_);exact Wk.e)|with_reducible exact trivial|with_reducible refine Br.mk ?_ ?_|refine cEk g2 ?_|refine CallE.inl ?_|refine cPk g2 ?_|refine CallI.h g1 [0,1,2,3,4] ?_|refine QB ?_|intro x hx hu|intro h|refine Spp.mk ?_ ?_))
   all_goals first|(exfalso;omega)|rfl
end Go.Proofs.YtikgcbioagmkkaaGreatDoor
