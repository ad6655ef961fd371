/- Contracts of the functions that the law reaches, and the law. Conditions: none. -/
import Derived.Test.YtikgcbioagmkkaaGreatDoorKK
set_option maxRecDepth 100000
set_option linter.all false
set_option maxHeartbeats 16000000
namespace Go.Proofs.YtikgcbioagmkkaaGreatDoor
open Go.Sy
theorem QSU{f:Int→List UInt8}{p:List UInt8}(h2:(ZN f p).2=0)(hk:0≤(ZN f p).1.k):(QI f (ZN f p).1.k).u=true:=by
 unfold ZN QK6 at*
 split at h2
 ·rename_i h;exact absurd h2 h
 ·rename_i h;rw[if_neg h]at hk⊢
  split at h2
  ·rename_i h';exact absurd h2 h'
  ·rename_i h';rw[if_neg h']at hk⊢
   split at h2
   ·exact absurd h2 (by decide)
   ·rename_i h'';rw[if_neg h'']at hk⊢
    dsimp only at hk⊢
    cases hf:Yy f (ZI f (Zj p).1).1 (Zj p).2.1 with
    |none=>rw[hf]at hk;exact absurd hk (by decide)
    |some k=>
     have hf':(List.range 24).find? (fun k=>decide (QAi f (ZI f (Zj p).1).1 (Zj p).2.1 k))=some k:=hf
     have h1:=List.find?_some hf'
     exact(of_decide_eq_true h1).1.1
theorem QIv{bad:List Int}{d:Dk}{w v:Wr}(h:d.nx∈bad):Qt bad d [.wr w,.bar,.wr v]=(tk d,3):=by unfold Qt;rw[if_pos h]
theorem QIw{bad:List Int}{d:Dk}{w:Wr}(h:d.nx∈bad):Qt bad d [.wr w]=(tk d,3):=by unfold Qt;rw[if_pos h]
theorem QIx{bad:List Int}{d:Dk}{w:Wr}(h:d.nx∉bad):Qt bad d [.wr w]=(wrD d w,0):=by unfold Qt Qt;rw[if_neg h]
theorem QIy{bad:List Int}{d:Dk}{w v:Wr}(h:d.nx∉bad)(h2:(wrD d w).nx∈bad):Qt bad d [.wr w,.bar,.wr v]=(tk (wrD d w),3):=by unfold Qt Qt;rw[if_neg h,if_pos h2]
theorem QIz{bad:List Int}{d:Dk}{w v:Wr}(h:d.nx∉bad)(h2:(wrD d w).nx∉bad):Qt bad d [.wr w,.bar,.wr v]=Qt bad (Yj (wrD d w)) [.wr v]:=by
 show(if d.nx∈bad then _ else _)=_
 rw[if_neg h]
 show(if(wrD d w).nx∈bad then _ else _)=_
 rw[if_neg h2]
theorem QO9{bad:List Int}{d:Dk}{N:Nat}(h:Fd bad d N)(hM:N+2≤90000)(frm dst:List UInt8)(hp:frm.length≤100000)(hq:dst.length≤100000):
  FnH Tryz.prog 37 [.ptr 0 0,.d (.st frm),.d (.st dst)] (Qp bad d) 1 [0] (.d (.it .i64 (runP bad d (QBa (imS (QT d)) frm dst)).2)) (Qp bad (runP bad d (QBa (imS (QT d)) frm dst)).1) 1:=by
 have hNw:=X8 bad d h.ok h.r
 have hm:=Jh h
 have hP1:=QB9 frm hp
 have hP2:=QB9 dst hq
 rw[QF8]at hP1 hP2
 have hA:=QAO (QT d) hm frm hp
 have hB:=QAO (QT d) hm dst hq
 have ka:=QBf (f:=imS (QT d)) (p:=frm)
 have kb:=QBf (f:=imS (QT d)) (p:=dst)
 have hu:=QSU (f:=imS (QT d)) (p:=frm)
 have hE:=ZT (QT d) hm (ZN (imS (QT d)) frm).1.k
 have hK:=Zh (QT d) hm (QI (imS (QT d)) (ZN (imS (QT d)) frm).1.k).t
 have hE2:=ZT (QT d) hm (ZN (imS (QT d)) dst).1.k
 have hK2:=Zh (QT d) hm (QI (imS (QT d)) (ZN (imS (QT d)) dst).1.k).t
 have hSl:=QHd (QT d) hm
 have hfe:=fun n=>QCI (f:=imS (QT d)) (n:=n)
 have hDp:=QI7 frm dst hp hq
 replace hNw:FnH Tryz.prog 42 [.ptr 0 0] (Qp bad d) 1 [0] (.d (Q1 (QT d))) (Qp bad d) 1:=hNw
 unfold QBa QMU QHR
 generalize ZN (imS (QT d)) frm=a at*
 generalize ZN (imS (QT d)) dst=c at*
 generalize Zj frm=u at*
 generalize Zj dst=v at*
 generalize QI (imS (QT d)) a.1.k=x at*
 generalize QI (imS (QT d)) c.1.k=y at*
 generalize Qw (imS (QT d)) x.t=xi at*
 generalize Qw (imS (QT d)) y.t=yi at*
 generalize frE (imS (QT d))=oe at*
 generalize QIu frm dst=dp at*
 generalize Q1 (QT d)=E at*
 obtain⟨u1,u2,u3⟩:=u
 obtain⟨v1,v2,v3⟩:=v
 obtain⟨⟨af,an,ak⟩,e⟩:=a
 obtain⟨⟨cf,cn,ck⟩,g⟩:=c
 obtain⟨xu,xp,xn,xt⟩:=x
 obtain⟨yu,yp,yn,yt⟩:=y
 obtain⟨xk,xz,xb0,xb1,xb2,xb3⟩:=xi
 obtain⟨yk,yz,yb0,yb1,yb2,yb3⟩:=yi
 dsimp only at*
 replace hP1:FnC Tryz.prog 84 [.d (.st frm)] (.tup [.d (.st u1),.d (.st u2),.d (.it .i64 u3)]):=hP1
 replace hP2:FnC Tryz.prog 84 [.d (.st dst)] (.tup [.d (.st v1),.d (.st v2),.d (.it .i64 v3)]):=hP2
 replace hE:FnC Tryz.prog 85 [.d E,.d (.it .i64 ak)] (.dg 4 [.bl xu,.it .i64 xp,.st xn,.it .i64 xt]):=hE
 replace hK:FnC Tryz.prog 86 [.d E,.d (.it .i64 xt)] (.dg 6 [.it .i64 xk,.it .i64 xz,.it .i64 xb0,.it .i64 xb1,.it .i64 xb2,.it .i64 xb3]):=hK
 replace hE2:FnC Tryz.prog 85 [.d E,.d (.it .i64 ck)] (.dg 4 [.bl yu,.it .i64 yp,.st yn,.it .i64 yt]):=hE2
 replace hK2:FnC Tryz.prog 86 [.d E,.d (.it .i64 yt)] (.dg 6 [.it .i64 yk,.it .i64 yz,.it .i64 yb0,.it .i64 yb1,.it .i64 yb2,.it .i64 yb3]):=hK2
 by_cases c1:u3=0
 ·subst c1
  rw[if_neg (by simp)]
  by_cases c2:v3=0
  ·subst c2
   rw[if_neg (by simp)]
   by_cases c3:e=0
   ·subst c3
    rw[if_neg (by simp)]
    by_cases c4:ak<0
    ·rw [if_pos c4,Q2 (by decide)]
     rw[QFN _ _ _ c4]at hA
     refine QR i37 fun T=>?_
     (repeat' ((conv=>whnf);first|refine cEk hP1 ?_|refine cEk hP2 ?_|refine cEk hA ?_|refine CallE.inl ?_|refine cPk hP1 ?_|refine cPk hP2 ?_|refine cPk hA ?_|refine CallI.h hNw [0] ?_|((with_reducible refine QK ?_);first|refine QH QA mixed (by decide+kernel) ?_|refine QF QA mixed 0 (by decide+kernel) ?_)|refine QB ?_|intro x hx hu|intro h|refine Spp.mk ?_ ?_))
     all_goals first|(exfalso;omega)|skip
     all_goals first|exact QY rfl (ai rfl trivial) (ai rfl (ai rfl trivial))|(exfalso;simp_all;done)
    ·rw [if_neg c4]
     rw[QD4 _ _ _ (by omega)]at hA
     have hu:=hu rfl (by omega)
     subst hu
     by_cases c5:g=0
     ·subst c5
      rw[if_neg (by simp)]
      by_cases c6:frm=dst∨ck=ak
      ·rw [if_pos c6,Z0]
       by_cases c7:ck<0
       ·rw [QFN _ _ _ c7]at hB
        have c8:frm=dst:=c6.resolve_right (by omega)
        have c8b:(frm==dst)=true:=by rw[c8];exact beq_self_eq_true _
        refine QR i37 fun T=>?_
        (repeat' ((conv=>whnf);first|with_reducible refine Spl.yes c8b ?_|with_reducible refine Spl.no c8b ?_|refine cEk hP1 ?_|refine cEk hP2 ?_|refine cEk hA ?_|refine cEk hB ?_|refine CallE.inl ?_|refine cPk hP1 ?_|refine cPk hP2 ?_|refine cPk hA ?_|refine cPk hB ?_|refine CallI.h hNw [0] ?_|((with_reducible refine QK ?_);first|refine QH QA mixed (by decide+kernel) ?_|refine QF QA mixed 0 (by decide+kernel) ?_)|refine QB ?_|intro x hx hu|intro h|refine Spp.mk ?_ ?_))
        all_goals first|(exfalso;omega)|skip
        all_goals first|exact QY rfl (ai rfl trivial) (ai rfl (ai rfl trivial))|(exfalso;simp_all;done)
       ·rw [QD4 _ _ _ (by omega)]at hB
        by_cases c8:frm=dst
        ·have c8b:(frm==dst)=true:=by rw[c8];exact beq_self_eq_true _
         refine QR i37 fun T=>?_
         (repeat' ((conv=>whnf);first|with_reducible refine Spl.yes c8b ?_|with_reducible refine Spl.no c8b ?_|refine cEk hP1 ?_|refine cEk hP2 ?_|refine cEk hA ?_|refine cEk hB ?_|refine CallE.inl ?_|refine cPk hP1 ?_|refine cPk hP2 ?_|refine cPk hA ?_|refine cPk hB ?_|refine CallI.h hNw [0] ?_|((with_reducible refine QK ?_);first|refine QH QA mixed (by decide+kernel) ?_|refine QF QA mixed 0 (by decide+kernel) ?_)|refine QB ?_|intro x hx hu|intro h|refine Spp.mk ?_ ?_))
         all_goals first|(exfalso;omega)|skip
         all_goals first|exact QY rfl (ai rfl trivial) (ai rfl (ai rfl trivial))|(exfalso;simp_all;done)
        ·have c9:ck=ak:=c6.resolve_left c8
         have c8b:(frm==dst)=false:=by simpa using c8
         subst c9
         refine QR i37 fun T=>?_
         (repeat' ((conv=>whnf);first|with_reducible refine Spl.yes c8b ?_|with_reducible refine Spl.no c8b ?_|refine cEk hP1 ?_|refine cEk hP2 ?_|refine cEk hA ?_|refine cEk hB ?_|refine CallE.inl ?_|refine cPk hP1 ?_|refine cPk hP2 ?_|refine cPk hA ?_|refine cPk hB ?_|refine CallI.h hNw [0] ?_|((with_reducible refine QK ?_);first|refine QH QA mixed (by decide+kernel) ?_|refine QF QA mixed 0 (by decide+kernel) ?_)|refine QB ?_|intro x hx hu|intro h|refine Spp.mk ?_ ?_))
         all_goals first|(exfalso;omega)|skip
         all_goals first|exact QY rfl (ai rfl trivial) (ai rfl (ai rfl trivial))|(exfalso;simp_all;done)
      ·rw [if_neg c6]
       have c8b:(frm==dst)=false:=by simpa using fun x=>c6 (.inl x)
       have c9:ck≠ak:=fun x=>c6 (.inr x)
       have hB0:(if ck<0 then(0:Int)else ck)=(if ck<0 then 0 else ck):=rfl
       by_cases c10:xk=2∧dp=true
       ·rw [if_pos c10,Q2 (by decide)]
        obtain⟨c10a,c10b⟩:=c10
        subst c10a
        subst c10b
        by_cases c7:ck<0
        ·rw [QFN _ _ _ c7]at hB
         refine QR i37 fun T=>?_
         (repeat' ((conv=>whnf);first|with_reducible refine Spl.yes c8b ?_|with_reducible refine Spl.no c8b ?_|refine cEk hP1 ?_|refine cEk hP2 ?_|refine cEk hA ?_|refine cEk hB ?_|refine cEk hE ?_|refine cEk hK ?_|refine cEk hDp ?_|refine CallE.inl ?_|refine cPk hP1 ?_|refine cPk hP2 ?_|refine cPk hA ?_|refine cPk hB ?_|refine cPk hE ?_|refine cPk hK ?_|refine cPk hDp ?_|refine CallI.h hNw [0] ?_|((with_reducible refine QK ?_);first|refine QH QA mixed (by decide+kernel) ?_|refine QF QA mixed 0 (by decide+kernel) ?_)|refine QB ?_|intro x hx hu|intro h|refine Spp.mk ?_ ?_))
         all_goals first|(exfalso;omega)|skip
         all_goals first|exact QY rfl (ai rfl trivial) (ai rfl (ai rfl trivial))|(exfalso;simp_all;done)
        ·rw [QD4 _ _ _ (by omega)]at hB
         refine QR i37 fun T=>?_
         (repeat' ((conv=>whnf);first|with_reducible refine Spl.yes c8b ?_|with_reducible refine Spl.no c8b ?_|refine cEk hP1 ?_|refine cEk hP2 ?_|refine cEk hA ?_|refine cEk hB ?_|refine cEk hE ?_|refine cEk hK ?_|refine cEk hDp ?_|refine CallE.inl ?_|refine cPk hP1 ?_|refine cPk hP2 ?_|refine cPk hA ?_|refine cPk hB ?_|refine cPk hE ?_|refine cPk hK ?_|refine cPk hDp ?_|refine CallI.h hNw [0] ?_|((with_reducible refine QK ?_);first|refine QH QA mixed (by decide+kernel) ?_|refine QF QA mixed 0 (by decide+kernel) ?_)|refine QB ?_|intro x hx hu|intro h|refine Spp.mk ?_ ?_))
         all_goals first|(exfalso;omega)|skip
         all_goals first|exact QY rfl (ai rfl trivial) (ai rfl (ai rfl trivial))|(exfalso;simp_all;done)
       ·rw [if_neg c10]
        have hdp:xk=2→dp=false:=fun x=>by
         cases dp with
         |false=>rfl
         |true=>exact absurd ⟨x,rfl⟩ c10
        by_cases c11:0≤ck∧(xk=2∨yk=2)
        ·rw [if_pos c11,Q2 (by decide)]
         rw[QD4 _ _ _ (by omega)]at hB
         have c11b:=c11.2
         by_cases c12:xk=2
         ·rw [hdp c12]at hDp
          subst c12
          cases oe with
          |none=>
           replace hSl:FnC Tryz.prog 77 [.d E] (.tup [.d (.it .i64 0),.d (.bl false)]):=hSl
           refine QR i37 fun T=>?_
           (repeat' ((conv=>whnf);first|with_reducible refine Spl.yes c8b ?_|with_reducible refine Spl.no c8b ?_|refine cEk hP1 ?_|refine cEk hP2 ?_|refine cEk hA ?_|refine cEk hB ?_|refine cEk hE ?_|refine cEk hK ?_|refine cEk hDp ?_|refine cEk hSl ?_|refine cEk hE2 ?_|refine cEk hK2 ?_|refine CallE.inl ?_|refine cPk hP1 ?_|refine cPk hP2 ?_|refine cPk hA ?_|refine cPk hB ?_|refine cPk hE ?_|refine cPk hK ?_|refine cPk hDp ?_|refine cPk hSl ?_|refine cPk hE2 ?_|refine cPk hK2 ?_|refine CallI.h hNw [0] ?_|((with_reducible refine QK ?_);first|refine QH QA mixed (by decide+kernel) ?_|refine QF QA mixed 0 (by decide+kernel) ?_)|refine QB ?_|intro x hx hu|intro h|refine Spp.mk ?_ ?_))
           all_goals first|(exfalso;omega)|skip
           all_goals first|exact QY rfl (ai rfl trivial) (ai rfl (ai rfl trivial))|(exfalso;simp_all;done)
          |some s=>
           replace hSl:FnC Tryz.prog 77 [.d E] (.tup [.d (.it .i64 (s:Nat)),.d (.bl true)]):=hSl
           refine QR i37 fun T=>?_
           (repeat' ((conv=>whnf);first|with_reducible refine Spl.yes c8b ?_|with_reducible refine Spl.no c8b ?_|refine cEk hP1 ?_|refine cEk hP2 ?_|refine cEk hA ?_|refine cEk hB ?_|refine cEk hE ?_|refine cEk hK ?_|refine cEk hDp ?_|refine cEk hSl ?_|refine cEk hE2 ?_|refine cEk hK2 ?_|refine CallE.inl ?_|refine cPk hP1 ?_|refine cPk hP2 ?_|refine cPk hA ?_|refine cPk hB ?_|refine cPk hE ?_|refine cPk hK ?_|refine cPk hDp ?_|refine cPk hSl ?_|refine cPk hE2 ?_|refine cPk hK2 ?_|refine CallI.h hNw [0] ?_|((with_reducible refine QK ?_);first|refine QH QA mixed (by decide+kernel) ?_|refine QF QA mixed 0 (by decide+kernel) ?_)|refine QB ?_|intro x hx hu|intro h|refine Spp.mk ?_ ?_))
           all_goals first|(exfalso;omega)|skip
           all_goals first|exact QY rfl (ai rfl trivial) (ai rfl (ai rfl trivial))|(exfalso;simp_all;done)
         ·have c13:yk=2:=c11b.resolve_left c12
          subst c13
          cases oe with
          |none=>
           replace hSl:FnC Tryz.prog 77 [.d E] (.tup [.d (.it .i64 0),.d (.bl false)]):=hSl
           refine QR i37 fun T=>?_
           (repeat' ((conv=>whnf);first|with_reducible refine Spl.yes c8b ?_|with_reducible refine Spl.no c8b ?_|refine cEk hP1 ?_|refine cEk hP2 ?_|refine cEk hA ?_|refine cEk hB ?_|refine cEk hE ?_|refine cEk hK ?_|refine cEk hDp ?_|refine cEk hSl ?_|refine cEk hE2 ?_|refine cEk hK2 ?_|refine CallE.inl ?_|refine cPk hP1 ?_|refine cPk hP2 ?_|refine cPk hA ?_|refine cPk hB ?_|refine cPk hE ?_|refine cPk hK ?_|refine cPk hDp ?_|refine cPk hSl ?_|refine cPk hE2 ?_|refine cPk hK2 ?_|refine CallI.h hNw [0] ?_|((with_reducible refine QK ?_);first|refine QH QA mixed (by decide+kernel) ?_|refine QF QA mixed 0 (by decide+kernel) ?_)|refine QB ?_|intro x hx hu|intro h|refine Spp.mk ?_ ?_))
           all_goals first|(exfalso;omega)|skip
           all_goals first|exact QY rfl (ai rfl trivial) (ai rfl (ai rfl trivial))|(exfalso;simp_all;done)
          |some s=>
           replace hSl:FnC Tryz.prog 77 [.d E] (.tup [.d (.it .i64 (s:Nat)),.d (.bl true)]):=hSl
           refine QR i37 fun T=>?_
           (repeat' ((conv=>whnf);first|with_reducible refine Spl.yes c8b ?_|with_reducible refine Spl.no c8b ?_|refine cEk hP1 ?_|refine cEk hP2 ?_|refine cEk hA ?_|refine cEk hB ?_|refine cEk hE ?_|refine cEk hK ?_|refine cEk hDp ?_|refine cEk hSl ?_|refine cEk hE2 ?_|refine cEk hK2 ?_|refine CallE.inl ?_|refine cPk hP1 ?_|refine cPk hP2 ?_|refine cPk hA ?_|refine cPk hB ?_|refine cPk hE ?_|refine cPk hK ?_|refine cPk hDp ?_|refine cPk hSl ?_|refine cPk hE2 ?_|refine cPk hK2 ?_|refine CallI.h hNw [0] ?_|((with_reducible refine QK ?_);first|refine QH QA mixed (by decide+kernel) ?_|refine QF QA mixed 0 (by decide+kernel) ?_)|refine QB ?_|intro x hx hu|intro h|refine Spp.mk ?_ ?_))
           all_goals first|(exfalso;omega)|skip
           all_goals first|exact QY rfl (ai rfl trivial) (ai rfl (ai rfl trivial))|(exfalso;simp_all;done)
        ·rw [if_neg c11]
         have hDp2:xk=2→FnC Tryz.prog 87 [.d (.st frm),.d (.st dst)] (.d (.bl false)):=fun hx=>by rw[hdp hx]at hDp;exact hDp
         have c13:0≤ck→xk≠2∧yk≠2:=fun hc=>⟨fun hx=>c11 ⟨hc,.inl hx⟩,fun hx=>c11 ⟨hc,.inr hx⟩⟩
         clear hdp hDp c10 c11 c6
         by_cases c7:ck<0
         ·rw [QFN _ _ _ c7]at hB
          by_cases c14:af=cf
          ·subst c14
           rw[if_pos ⟨c7,rfl⟩,Z0]
           have go:=Xj ak (by omega) ⟨true,af,cn,xt⟩ af
           obtain⟨s1,e1⟩:=Zg (ZO ⟨true,af,cn,xt⟩)
           have g1:=YP h [⟨17+ak,Qa ⟨true,af,cn,xt⟩,3,af,0⟩] (fun s hs=>by rw[yy.1 hs];exact XU ak (by omega) _ _) (by simp)
           replace g1:FnH Tryz.prog 79 [.ptr 0 0,.d (.fs 36 [Qn ⟨17+ak,Qa ⟨true,af,cn,xt⟩,3,af,0⟩])] (Qp bad d) 1 [0] (.d (.it .i64 (Qt bad d [.wr ⟨17+ak,Qa ⟨true,af,cn,xt⟩,3,af,0⟩]).2)) (Qp bad (Qt bad d [.wr ⟨17+ak,Qa ⟨true,af,cn,xt⟩,3,af,0⟩]).1) 1:=g1
           generalize Qt bad d [.wr ⟨17+ak,Qa ⟨true,af,cn,xt⟩,3,af,0⟩]=R at*
           rw[e1]at go g1
           cases oe with
           |none=>
            replace hSl:FnC Tryz.prog 77 [.d E] (.tup [.d (.it .i64 0),.d (.bl false)]):=hSl
            refine QR i37 fun T=>?_
            (repeat' ((conv=>whnf);first|with_reducible refine Spl.yes c8b ?_|with_reducible refine Spl.no c8b ?_|refine cEk hP1 ?_|refine cEk hP2 ?_|refine cEk hA ?_|refine cEk hB ?_|refine cEk hE ?_|refine cEk hK ?_|refine cEk (hDp2 (by assumption)) ?_|refine cEk hSl ?_|refine cEk hE2 ?_|refine cEk hK2 ?_|refine cEk go ?_|refine CallE.inl ?_|refine cPk hP1 ?_|refine cPk hP2 ?_|refine cPk hA ?_|refine cPk hB ?_|refine cPk hE ?_|refine cPk hK ?_|refine cPk (hDp2 (by assumption)) ?_|refine cPk hSl ?_|refine cPk hE2 ?_|refine cPk hK2 ?_|refine cPk go ?_|refine CallI.h hNw [0] ?_|refine CallI.byHp g1 [0] (ai (.inl rfl) (ai (.inr (by with_unfolding_all exact rfl)) trivial)) ⟨rfl,by decide,by with_unfolding_all exact rfl⟩ (ai rfl trivial) rfl rfl ?_|((with_reducible refine QK ?_);first|refine QH QA mixed (by decide+kernel) ?_|refine QF QA mixed 0 (by decide+kernel) ?_)|refine QB ?_|intro x hx hu|intro h|refine Spp.mk ?_ ?_))
            all_goals first|(exfalso;omega)|skip
            all_goals first|exact QY rfl (ai rfl trivial) (ai rfl (ai rfl trivial))|(exfalso;simp_all;done)
           |some s=>
            replace hSl:FnC Tryz.prog 77 [.d E] (.tup [.d (.it .i64 (s:Nat)),.d (.bl true)]):=hSl
            refine QR i37 fun T=>?_
            (repeat' ((conv=>whnf);first|with_reducible refine Spl.yes c8b ?_|with_reducible refine Spl.no c8b ?_|refine cEk hP1 ?_|refine cEk hP2 ?_|refine cEk hA ?_|refine cEk hB ?_|refine cEk hE ?_|refine cEk hK ?_|refine cEk (hDp2 (by assumption)) ?_|refine cEk hSl ?_|refine cEk hE2 ?_|refine cEk hK2 ?_|refine cEk go ?_|refine CallE.inl ?_|refine cPk hP1 ?_|refine cPk hP2 ?_|refine cPk hA ?_|refine cPk hB ?_|refine cPk hE ?_|refine cPk hK ?_|refine cPk (hDp2 (by assumption)) ?_|refine cPk hSl ?_|refine cPk hE2 ?_|refine cPk hK2 ?_|refine cPk go ?_|refine CallI.h hNw [0] ?_|refine CallI.byHp g1 [0] (ai (.inl rfl) (ai (.inr (by with_unfolding_all exact rfl)) trivial)) ⟨rfl,by decide,by with_unfolding_all exact rfl⟩ (ai rfl trivial) rfl rfl ?_|((with_reducible refine QK ?_);first|refine QH QA mixed (by decide+kernel) ?_|refine QF QA mixed 0 (by decide+kernel) ?_)|refine QB ?_|intro x hx hu|intro h|refine Spp.mk ?_ ?_))
            all_goals first|(exfalso;omega)|skip
            all_goals first|exact QY rfl (ai rfl trivial) (ai rfl (ai rfl trivial))|(exfalso;simp_all;done)
          ·rw [if_neg fun x=>c14 x.2,if_pos c7]
           cases oe with
           |none=>
            replace hSl:FnC Tryz.prog 77 [.d E] (.tup [.d (.it .i64 0),.d (.bl false)]):=hSl
            dsimp only
            rw[Q2 (by decide)]
            refine QR i37 fun T=>?_
            (repeat' ((conv=>whnf);first|with_reducible refine Spl.yes c8b ?_|with_reducible refine Spl.no c8b ?_|refine cEk hP1 ?_|refine cEk hP2 ?_|refine cEk hA ?_|refine cEk hB ?_|refine cEk hE ?_|refine cEk hK ?_|refine cEk (hDp2 (by assumption)) ?_|refine cEk hSl ?_|refine cEk hE2 ?_|refine cEk hK2 ?_|refine CallE.inl ?_|refine cPk hP1 ?_|refine cPk hP2 ?_|refine cPk hA ?_|refine cPk hB ?_|refine cPk hE ?_|refine cPk hK ?_|refine cPk (hDp2 (by assumption)) ?_|refine cPk hSl ?_|refine cPk hE2 ?_|refine cPk hK2 ?_|refine CallI.h hNw [0] ?_|((with_reducible refine QK ?_);first|refine QH QA mixed (by decide+kernel) ?_|refine QF QA mixed 0 (by decide+kernel) ?_)|refine QB ?_|intro x hx hu|intro h|refine Spp.mk ?_ ?_))
            all_goals first|(exfalso;omega)|skip
            all_goals first|exact QY rfl (ai rfl trivial) (ai rfl (ai rfl trivial))|(exfalso;simp_all;done)
           |some s=>
            replace hSl:FnC Tryz.prog 77 [.d E] (.tup [.d (.it .i64 (s:Nat)),.d (.bl true)]):=hSl
            have hs24:=hfe s rfl
            dsimp only
            rw[Z0]
            have go:=Xj (s:Nat) (by omega) ⟨true,cf,cn,xt⟩ cf
            obtain⟨s1,e1⟩:=Zg (ZO ⟨true,cf,cn,xt⟩)
            have g1:=YP h [⟨17+(s:Nat),Qa ⟨true,cf,cn,xt⟩,3,cf,0⟩] (fun v hv=>by rw[yy.1 hv];exact XU (s:Nat) (by omega) _ _) (by simp)
            replace g1:FnH Tryz.prog 79 [.ptr 0 0,.d (.fs 36 [Qn ⟨17+(s:Nat),Qa ⟨true,cf,cn,xt⟩,3,cf,0⟩])] (Qp bad d) 1 [0] (.d (.it .i64 (Qt bad d [.wr ⟨17+(s:Nat),Qa ⟨true,cf,cn,xt⟩,3,cf,0⟩]).2)) (Qp bad (Qt bad d [.wr ⟨17+(s:Nat),Qa ⟨true,cf,cn,xt⟩,3,cf,0⟩]).1) 1:=g1
            by_cases b1:d.nx∈bad
            ·rw [QIv b1]
             rw[QIw b1,e1]at g1
             rw[e1]at go
             refine QR i37 fun T=>?_
             (repeat' ((conv=>whnf);first|with_reducible refine Spl.yes c8b ?_|with_reducible refine Spl.no c8b ?_|refine cEk hP1 ?_|refine cEk hP2 ?_|refine cEk hA ?_|refine cEk hB ?_|refine cEk hE ?_|refine cEk hK ?_|refine cEk (hDp2 (by assumption)) ?_|refine cEk hSl ?_|refine cEk hE2 ?_|refine cEk hK2 ?_|refine cEk go ?_|refine CallE.inl ?_|refine cPk hP1 ?_|refine cPk hP2 ?_|refine cPk hA ?_|refine cPk hB ?_|refine cPk hE ?_|refine cPk hK ?_|refine cPk (hDp2 (by assumption)) ?_|refine cPk hSl ?_|refine cPk hE2 ?_|refine cPk hK2 ?_|refine cPk go ?_|refine CallI.h hNw [0] ?_|refine CallI.byHp g1 [0] (ai (.inl rfl) (ai (.inr (by with_unfolding_all exact rfl)) trivial)) ⟨rfl,by decide,by with_unfolding_all exact rfl⟩ (ai rfl trivial) rfl rfl ?_|((with_reducible refine QK ?_);first|refine QH QA mixed (by decide+kernel) ?_|refine QF QA mixed 0 (by decide+kernel) ?_)|refine QB ?_|intro x hx hu|intro h|refine Spp.mk ?_ ?_))
             all_goals first|(exfalso;omega)|skip
             all_goals first|exact QY rfl (ai rfl trivial) (ai rfl (ai rfl trivial))|(exfalso;simp_all;done)
            ·have hd1:=h.wr (by omega) ⟨17+(s:Nat),Qa ⟨true,cf,cn,xt⟩,3,cf,0⟩ (XU (s:Nat) (by omega) _ _)
             have gB:=QGO bad (wrD d ⟨17+(s:Nat),Qa ⟨true,cf,cn,xt⟩,3,cf,0⟩) (by have:=hd1.b.nx;omega) h.bl (by have:=hd1.b.l;omega) (by have:=hd1.ep;omega)
             rw[QIx b1]at g1
             have h3b:= @QIy bad d ⟨17+(s:Nat),Qa ⟨true,cf,cn,xt⟩,3,cf,0⟩ ⟨17+ak,Qa Q6,3,af,0⟩ b1
             have h3c:= @QIz bad d ⟨17+(s:Nat),Qa ⟨true,cf,cn,xt⟩,3,cf,0⟩ ⟨17+ak,Qa Q6,3,af,0⟩ b1
             have hd2:=hd1.bar (by omega)
             generalize hR:Qt bad d [.wr ⟨17+(s:Nat),Qa ⟨true,cf,cn,xt⟩,3,cf,0⟩,.bar,.wr ⟨17+ak,Qa Q6,3,af,0⟩]=R at*
             clear hR
             generalize wrD d ⟨17+(s:Nat),Qa ⟨true,cf,cn,xt⟩,3,cf,0⟩=d1 at*
             rw[e1]at go g1
             by_cases b2:d1.nx∈bad
             ·rw [h3b b2]
              rw[if_pos b2,if_pos b2]at gB
              dsimp only at g1⊢
              generalize tk d1=d3 at*
              refine QR i37 fun T=>?_
              (repeat' ((conv=>whnf);first|with_reducible refine Spl.yes c8b ?_|with_reducible refine Spl.no c8b ?_|refine cEk hP1 ?_|refine cEk hP2 ?_|refine cEk hA ?_|refine cEk hB ?_|refine cEk hE ?_|refine cEk hK ?_|refine cEk (hDp2 (by assumption)) ?_|refine cEk hSl ?_|refine cEk hE2 ?_|refine cEk hK2 ?_|refine cEk go ?_|refine CallE.inl ?_|refine cPk hP1 ?_|refine cPk hP2 ?_|refine cPk hA ?_|refine cPk hB ?_|refine cPk hE ?_|refine cPk hK ?_|refine cPk (hDp2 (by assumption)) ?_|refine cPk hSl ?_|refine cPk hE2 ?_|refine cPk hK2 ?_|refine cPk go ?_|refine CallI.h hNw [0] ?_|refine CallI.byHp g1 [0] (ai (.inl rfl) (ai (.inr (by with_unfolding_all exact rfl)) trivial)) ⟨rfl,by decide,by with_unfolding_all exact rfl⟩ (ai rfl trivial) rfl rfl ?_|refine CallI.h gB [0] ?_|((with_reducible refine QK ?_);first|refine QH QA mixed (by decide+kernel) ?_|refine QF QA mixed 0 (by decide+kernel) ?_)|refine QB ?_|intro x hx hu|intro h|refine Spp.mk ?_ ?_))
              all_goals first|(exfalso;omega)|skip
              all_goals first|exact QY rfl (ai rfl trivial) (ai rfl (ai rfl trivial))|(exfalso;simp_all;done)
             ·rw [h3c b2]
              rw[if_neg b2,if_neg b2]at gB
              dsimp only at g1
              have go2:=Xj ak (by omega) Q6 af
              obtain⟨s2,e2⟩:=Zg (ZO Q6)
              have g2:=YP hd2 [⟨17+ak,Qa Q6,3,af,0⟩] (fun v hv=>by rw[yy.1 hv];exact XU ak (by omega) _ _) (by simp)
              replace g2:FnH Tryz.prog 79 [.ptr 0 0,.d (.fs 36 [Qn ⟨17+ak,Qa Q6,3,af,0⟩])] (Qp bad (Yj d1)) 1 [0] (.d (.it .i64 (Qt bad (Yj d1) [.wr ⟨17+ak,Qa Q6,3,af,0⟩]).2)) (Qp bad (Qt bad (Yj d1) [.wr ⟨17+ak,Qa Q6,3,af,0⟩]).1) 1:=g2
              rw[QCn]at go2
              generalize Qt bad (Yj d1) [.wr ⟨17+ak,Qa Q6,3,af,0⟩]=R2 at*
              rw[e2]at go2 g2
              generalize Yj d1=d2 at*
              refine QR i37 fun T=>?_
              (repeat' ((conv=>whnf);first|with_reducible refine Spl.yes c8b ?_|with_reducible refine Spl.no c8b ?_|refine cEk hP1 ?_|refine cEk hP2 ?_|refine cEk hA ?_|refine cEk hB ?_|refine cEk hE ?_|refine cEk hK ?_|refine cEk (hDp2 (by assumption)) ?_|refine cEk hSl ?_|refine cEk hE2 ?_|refine cEk hK2 ?_|refine cEk go ?_|refine cEk go2 ?_|refine CallE.inl ?_|refine cPk hP1 ?_|refine cPk hP2 ?_|refine cPk hA ?_|refine cPk hB ?_|refine cPk hE ?_|refine cPk hK ?_|refine cPk (hDp2 (by assumption)) ?_|refine cPk hSl ?_|refine cPk hE2 ?_|refine cPk hK2 ?_|refine cPk go ?_|refine cPk go2 ?_|refine CallI.h hNw [0] ?_|refine CallI.byHp g1 [0] (ai (.inl rfl) (ai (.inr (by with_unfolding_all exact rfl)) trivial)) ⟨rfl,by decide,by with_unfolding_all exact rfl⟩ (ai rfl trivial) rfl rfl ?_|refine CallI.h gB [0] ?_|refine CallI.byHp g2 [0] (ai (.inl rfl) (ai (.inr (by with_unfolding_all exact rfl)) trivial)) ⟨rfl,by decide,by with_unfolding_all exact rfl⟩ (ai rfl trivial) rfl rfl ?_|((with_reducible refine QK ?_);first|refine QH QA mixed (by decide+kernel) ?_|refine QF QA mixed 0 (by decide+kernel) ?_)|refine QB ?_|intro x hx hu|intro h|refine Spp.mk ?_ ?_))
              all_goals first|(exfalso;omega)|skip
              all_goals first|exact QY rfl (ai rfl trivial) (ai rfl (ai rfl trivial))|(exfalso;simp_all;done)
         ·rw [QD4 _ _ _ (by omega)]at hB
          rw[if_neg fun x=>c7 x.1,if_neg c7]
          obtain⟨c13a,c13b⟩:=c13 (by omega)
          dsimp only
          rw[Z0,show((ck.toNat:Nat):Int)=ck by omega]
          cases oe with
          |none=>
           replace hSl:FnC Tryz.prog 77 [.d E] (.tup [.d (.it .i64 0),.d (.bl false)]):=hSl
           have go:=Xj ck (by omega) ⟨true,cf,cn,xt⟩ cf
           obtain⟨s1,e1⟩:=Zg (ZO ⟨true,cf,cn,xt⟩)
           have g1:=YP h [⟨17+ck,Qa ⟨true,cf,cn,xt⟩,3,cf,0⟩] (fun v hv=>by rw[yy.1 hv];exact XU ck (by omega) _ _) (by simp)
           replace g1:FnH Tryz.prog 79 [.ptr 0 0,.d (.fs 36 [Qn ⟨17+ck,Qa ⟨true,cf,cn,xt⟩,3,cf,0⟩])] (Qp bad d) 1 [0] (.d (.it .i64 (Qt bad d [.wr ⟨17+ck,Qa ⟨true,cf,cn,xt⟩,3,cf,0⟩]).2)) (Qp bad (Qt bad d [.wr ⟨17+ck,Qa ⟨true,cf,cn,xt⟩,3,cf,0⟩]).1) 1:=g1
           by_cases b1:d.nx∈bad
           ·rw [QIv b1]
            rw[QIw b1,e1]at g1
            rw[e1]at go
            refine QR i37 fun T=>?_
            (repeat' ((conv=>whnf);first|with_reducible refine Spl.yes c8b ?_|with_reducible refine Spl.no c8b ?_|refine cEk hP1 ?_|refine cEk hP2 ?_|refine cEk hA ?_|refine cEk hB ?_|refine cEk hE ?_|refine cEk hK ?_|refine cEk (hDp2 (by assumption)) ?_|refine cEk hSl ?_|refine cEk hE2 ?_|refine cEk hK2 ?_|refine cEk go ?_|refine CallE.inl ?_|refine cPk hP1 ?_|refine cPk hP2 ?_|refine cPk hA ?_|refine cPk hB ?_|refine cPk hE ?_|refine cPk hK ?_|refine cPk (hDp2 (by assumption)) ?_|refine cPk hSl ?_|refine cPk hE2 ?_|refine cPk hK2 ?_|refine cPk go ?_|refine CallI.h hNw [0] ?_|refine CallI.byHp g1 [0] (ai (.inl rfl) (ai (.inr (by with_unfolding_all exact rfl)) trivial)) ⟨rfl,by decide,by with_unfolding_all exact rfl⟩ (ai rfl trivial) rfl rfl ?_|((with_reducible refine QK ?_);first|refine QH QA mixed (by decide+kernel) ?_|refine QF QA mixed 0 (by decide+kernel) ?_)|refine QB ?_|intro x hx hu|intro h|refine Spp.mk ?_ ?_))
            all_goals first|(exfalso;omega)|skip
            all_goals first|exact QY rfl (ai rfl trivial) (ai rfl (ai rfl trivial))|(exfalso;simp_all;done)
           ·have hd1:=h.wr (by omega) ⟨17+ck,Qa ⟨true,cf,cn,xt⟩,3,cf,0⟩ (XU ck (by omega) _ _)
            have gB:=QGO bad (wrD d ⟨17+ck,Qa ⟨true,cf,cn,xt⟩,3,cf,0⟩) (by have:=hd1.b.nx;omega) h.bl (by have:=hd1.b.l;omega) (by have:=hd1.ep;omega)
            rw[QIx b1]at g1
            have h3b:= @QIy bad d ⟨17+ck,Qa ⟨true,cf,cn,xt⟩,3,cf,0⟩ ⟨17+ak,Qa Q6,3,af,0⟩ b1
            have h3c:= @QIz bad d ⟨17+ck,Qa ⟨true,cf,cn,xt⟩,3,cf,0⟩ ⟨17+ak,Qa Q6,3,af,0⟩ b1
            have hd2:=hd1.bar (by omega)
            generalize hR:Qt bad d [.wr ⟨17+ck,Qa ⟨true,cf,cn,xt⟩,3,cf,0⟩,.bar,.wr ⟨17+ak,Qa Q6,3,af,0⟩]=R at*
            clear hR
            generalize wrD d ⟨17+ck,Qa ⟨true,cf,cn,xt⟩,3,cf,0⟩=d1 at*
            rw[e1]at go g1
            by_cases b2:d1.nx∈bad
            ·rw [h3b b2]
             rw[if_pos b2,if_pos b2]at gB
             dsimp only at g1⊢
             generalize tk d1=d3 at*
             refine QR i37 fun T=>?_
             (repeat' ((conv=>whnf);first|with_reducible refine Spl.yes c8b ?_|with_reducible refine Spl.no c8b ?_|refine cEk hP1 ?_|refine cEk hP2 ?_|refine cEk hA ?_|refine cEk hB ?_|refine cEk hE ?_|refine cEk hK ?_|refine cEk (hDp2 (by assumption)) ?_|refine cEk hSl ?_|refine cEk hE2 ?_|refine cEk hK2 ?_|refine cEk go ?_|refine CallE.inl ?_|refine cPk hP1 ?_|refine cPk hP2 ?_|refine cPk hA ?_|refine cPk hB ?_|refine cPk hE ?_|refine cPk hK ?_|refine cPk (hDp2 (by assumption)) ?_|refine cPk hSl ?_|refine cPk hE2 ?_|refine cPk hK2 ?_|refine cPk go ?_|refine CallI.h hNw [0] ?_|refine CallI.byHp g1 [0] (ai (.inl rfl) (ai (.inr (by with_unfolding_all exact rfl)) trivial)) ⟨rfl,by decide,by with_unfolding_all exact rfl⟩ (ai rfl trivial) rfl rfl ?_|refine CallI.h gB [0] ?_|((with_reducible refine QK ?_);first|refine QH QA mixed (by decide+kernel) ?_|refine QF QA mixed 0 (by decide+kernel) ?_)|refine QB ?_|intro x hx hu|intro h|refine Spp.mk ?_ ?_))
             all_goals first|(exfalso;omega)|skip
             all_goals first|exact QY rfl (ai rfl trivial) (ai rfl (ai rfl trivial))|(exfalso;simp_all;done)
            ·rw [h3c b2]
             rw[if_neg b2,if_neg b2]at gB
             dsimp only at g1
             have go2:=Xj ak (by omega) Q6 af
             obtain⟨s2,e2⟩:=Zg (ZO Q6)
             have g2:=YP hd2 [⟨17+ak,Qa Q6,3,af,0⟩] (fun v hv=>by rw[yy.1 hv];exact XU ak (by omega) _ _) (by simp)
             replace g2:FnH Tryz.prog 79 [.ptr 0 0,.d (.fs 36 [Qn ⟨17+ak,Qa Q6,3,af,0⟩])] (Qp bad (Yj d1)) 1 [0] (.d (.it .i64 (Qt bad (Yj d1) [.wr ⟨17+ak,Qa Q6,3,af,0⟩]).2)) (Qp bad (Qt bad (Yj d1) [.wr ⟨17+ak,Qa Q6,3,af,0⟩]).1) 1:=g2
             rw[QCn]at go2
             generalize Qt bad (Yj d1) [.wr ⟨17+ak,Qa Q6,3,af,0⟩]=R2 at*
             rw[e2]at go2 g2
             generalize Yj d1=d2 at*
             refine QR i37 fun T=>?_
             (repeat' ((conv=>whnf);first|with_reducible refine Spl.yes c8b ?_|with_reducible refine Spl.no c8b ?_|refine cEk hP1 ?_|refine cEk hP2 ?_|refine cEk hA ?_|refine cEk hB ?_|refine cEk hE ?_|refine cEk hK ?_|refine cEk (hDp2 (by assumption)) ?_|refine cEk hSl ?_|refine cEk hE2 ?_|refine cEk hK2 ?_|refine cEk go ?_|refine cEk go2 ?_|refine CallE.inl ?_|refine cPk hP1 ?_|refine cPk hP2 ?_|refine cPk hA ?_|refine cPk hB ?_|refine cPk hE ?_|refine cPk hK ?_|refine cPk (hDp2 (by assumption)) ?_|refine cPk hSl ?_|refine cPk hE2 ?_|refine cPk hK2 ?_|refine cPk go ?_|refine cPk go2 ?_|refine CallI.h hNw [0] ?_|refine CallI.byHp g1 [0] (ai (.inl rfl) (ai (.inr (by with_unfolding_all exact rfl)) trivial)) ⟨rfl,by decide,by with_unfolding_all exact rfl⟩ (ai rfl trivial) rfl rfl ?_|refine CallI.h gB [0] ?_|refine CallI.byHp g2 [0] (ai (.inl rfl) (ai (.inr (by with_unfolding_all exact rfl)) trivial)) ⟨rfl,by decide,by with_unfolding_all exact rfl⟩ (ai rfl trivial) rfl rfl ?_|((with_reducible refine QK ?_);first|refine QH QA mixed (by decide+kernel) ?_|refine QF QA mixed 0 (by decide+kernel) ?_)|refine QB ?_|intro x hx hu|intro h|refine Spp.mk ?_ ?_))
             all_goals first|(exfalso;omega)|skip
             all_goals first|exact QY rfl (ai rfl trivial) (ai rfl (ai rfl trivial))|(exfalso;simp_all;done)
          |some s=>
           replace hSl:FnC Tryz.prog 77 [.d E] (.tup [.d (.it .i64 (s:Nat)),.d (.bl true)]):=hSl
           have go:=Xj ck (by omega) ⟨true,cf,cn,xt⟩ cf
           obtain⟨s1,e1⟩:=Zg (ZO ⟨true,cf,cn,xt⟩)
           have g1:=YP h [⟨17+ck,Qa ⟨true,cf,cn,xt⟩,3,cf,0⟩] (fun v hv=>by rw[yy.1 hv];exact XU ck (by omega) _ _) (by simp)
           replace g1:FnH Tryz.prog 79 [.ptr 0 0,.d (.fs 36 [Qn ⟨17+ck,Qa ⟨true,cf,cn,xt⟩,3,cf,0⟩])] (Qp bad d) 1 [0] (.d (.it .i64 (Qt bad d [.wr ⟨17+ck,Qa ⟨true,cf,cn,xt⟩,3,cf,0⟩]).2)) (Qp bad (Qt bad d [.wr ⟨17+ck,Qa ⟨true,cf,cn,xt⟩,3,cf,0⟩]).1) 1:=g1
           by_cases b1:d.nx∈bad
           ·rw [QIv b1]
            rw[QIw b1,e1]at g1
            rw[e1]at go
            refine QR i37 fun T=>?_
            (repeat' ((conv=>whnf);first|with_reducible refine Spl.yes c8b ?_|with_reducible refine Spl.no c8b ?_|refine cEk hP1 ?_|refine cEk hP2 ?_|refine cEk hA ?_|refine cEk hB ?_|refine cEk hE ?_|refine cEk hK ?_|refine cEk (hDp2 (by assumption)) ?_|refine cEk hSl ?_|refine cEk hE2 ?_|refine cEk hK2 ?_|refine cEk go ?_|refine CallE.inl ?_|refine cPk hP1 ?_|refine cPk hP2 ?_|refine cPk hA ?_|refine cPk hB ?_|refine cPk hE ?_|refine cPk hK ?_|refine cPk (hDp2 (by assumption)) ?_|refine cPk hSl ?_|refine cPk hE2 ?_|refine cPk hK2 ?_|refine cPk go ?_|refine CallI.h hNw [0] ?_|refine CallI.byHp g1 [0] (ai (.inl rfl) (ai (.inr (by with_unfolding_all exact rfl)) trivial)) ⟨rfl,by decide,by with_unfolding_all exact rfl⟩ (ai rfl trivial) rfl rfl ?_|((with_reducible refine QK ?_);first|refine QH QA mixed (by decide+kernel) ?_|refine QF QA mixed 0 (by decide+kernel) ?_)|refine QB ?_|intro x hx hu|intro h|refine Spp.mk ?_ ?_))
            all_goals first|(exfalso;omega)|skip
            all_goals first|exact QY rfl (ai rfl trivial) (ai rfl (ai rfl trivial))|(exfalso;simp_all;done)
           ·have hd1:=h.wr (by omega) ⟨17+ck,Qa ⟨true,cf,cn,xt⟩,3,cf,0⟩ (XU ck (by omega) _ _)
            have gB:=QGO bad (wrD d ⟨17+ck,Qa ⟨true,cf,cn,xt⟩,3,cf,0⟩) (by have:=hd1.b.nx;omega) h.bl (by have:=hd1.b.l;omega) (by have:=hd1.ep;omega)
            rw[QIx b1]at g1
            have h3b:= @QIy bad d ⟨17+ck,Qa ⟨true,cf,cn,xt⟩,3,cf,0⟩ ⟨17+ak,Qa Q6,3,af,0⟩ b1
            have h3c:= @QIz bad d ⟨17+ck,Qa ⟨true,cf,cn,xt⟩,3,cf,0⟩ ⟨17+ak,Qa Q6,3,af,0⟩ b1
            have hd2:=hd1.bar (by omega)
            generalize hR:Qt bad d [.wr ⟨17+ck,Qa ⟨true,cf,cn,xt⟩,3,cf,0⟩,.bar,.wr ⟨17+ak,Qa Q6,3,af,0⟩]=R at*
            clear hR
            generalize wrD d ⟨17+ck,Qa ⟨true,cf,cn,xt⟩,3,cf,0⟩=d1 at*
            rw[e1]at go g1
            by_cases b2:d1.nx∈bad
            ·rw [h3b b2]
             rw[if_pos b2,if_pos b2]at gB
             dsimp only at g1⊢
             generalize tk d1=d3 at*
             refine QR i37 fun T=>?_
             (repeat' ((conv=>whnf);first|with_reducible refine Spl.yes c8b ?_|with_reducible refine Spl.no c8b ?_|refine cEk hP1 ?_|refine cEk hP2 ?_|refine cEk hA ?_|refine cEk hB ?_|refine cEk hE ?_|refine cEk hK ?_|refine cEk (hDp2 (by assumption)) ?_|refine cEk hSl ?_|refine cEk hE2 ?_|refine cEk hK2 ?_|refine cEk go ?_|refine CallE.inl ?_|refine cPk hP1 ?_|refine cPk hP2 ?_|refine cPk hA ?_|refine cPk hB ?_|refine cPk hE ?_|refine cPk hK ?_|refine cPk (hDp2 (by assumption)) ?_|refine cPk hSl ?_|refine cPk hE2 ?_|refine cPk hK2 ?_|refine cPk go ?_|refine CallI.h hNw [0] ?_|refine CallI.byHp g1 [0] (ai (.inl rfl) (ai (.inr (by with_unfolding_all exact rfl)) trivial)) ⟨rfl,by decide,by with_unfolding_all exact rfl⟩ (ai rfl trivial) rfl rfl ?_|refine CallI.h gB [0] ?_|((with_reducible refine QK ?_);first|refine QH QA mixed (by decide+kernel) ?_|refine QF QA mixed 0 (by decide+kernel) ?_)|refine QB ?_|intro x hx hu|intro h|refine Spp.mk ?_ ?_))
             all_goals first|(exfalso;omega)|skip
             all_goals first|exact QY rfl (ai rfl trivial) (ai rfl (ai rfl trivial))|(exfalso;simp_all;done)
            ·rw [h3c b2]
             rw[if_neg b2,if_neg b2]at gB
             dsimp only at g1
             have go2:=Xj ak (by omega) Q6 af
             obtain⟨s2,e2⟩:=Zg (ZO Q6)
             have g2:=YP hd2 [⟨17+ak,Qa Q6,3,af,0⟩] (fun v hv=>by rw[yy.1 hv];exact XU ak (by omega) _ _) (by simp)
             replace g2:FnH Tryz.prog 79 [.ptr 0 0,.d (.fs 36 [Qn ⟨17+ak,Qa Q6,3,af,0⟩])] (Qp bad (Yj d1)) 1 [0] (.d (.it .i64 (Qt bad (Yj d1) [.wr ⟨17+ak,Qa Q6,3,af,0⟩]).2)) (Qp bad (Qt bad (Yj d1) [.wr ⟨17+ak,Qa Q6,3,af,0⟩]).1) 1:=g2
             rw[QCn]at go2
             generalize Qt bad (Yj d1) [.wr ⟨17+ak,Qa Q6,3,af,0⟩]=R2 at*
             rw[e2]at go2 g2
             generalize Yj d1=d2 at*
             refine QR i37 fun T=>?_
             (repeat' ((conv=>whnf);first|with_reducible refine Spl.yes c8b ?_|with_reducible refine Spl.no c8b ?_|refine cEk hP1 ?_|refine cEk hP2 ?_|refine cEk hA ?_|refine cEk hB ?_|refine cEk hE ?_|refine cEk hK ?_|refine cEk (hDp2 (by assumption)) ?_|refine cEk hSl ?_|refine cEk hE2 ?_|refine cEk hK2 ?_|refine cEk go ?_|refine cEk go2 ?_|refine CallE.inl ?_|refine cPk hP1 ?_|refine cPk hP2 ?_|refine cPk hA ?_|refine cPk hB ?_|refine cPk hE ?_|refine cPk hK ?_|refine cPk (hDp2 (by assumption)) ?_|refine cPk hSl ?_|refine cPk hE2 ?_|refine cPk hK2 ?_|refine cPk go ?_|refine cPk go2 ?_|refine CallI.h hNw [0] ?_|refine CallI.byHp g1 [0] (ai (.inl rfl) (ai (.inr (by with_unfolding_all exact rfl)) trivial)) ⟨rfl,by decide,by with_unfolding_all exact rfl⟩ (ai rfl trivial) rfl rfl ?_|refine CallI.h gB [0] ?_|refine CallI.byHp g2 [0] (ai (.inl rfl) (ai (.inr (by with_unfolding_all exact rfl)) trivial)) ⟨rfl,by decide,by with_unfolding_all exact rfl⟩ (ai rfl trivial) rfl rfl ?_|((with_reducible refine QK ?_);first|refine QH QA mixed (by decide+kernel) ?_|refine QF QA mixed 0 (by decide+kernel) ?_)|refine QB ?_|intro x hx hu|intro h|refine Spp.mk ?_ ?_))
             all_goals first|(exfalso;omega)|skip
             all_goals first|exact QY rfl (ai rfl trivial) (ai rfl (ai rfl trivial))|(exfalso;simp_all;done)
     ·rw [if_pos c5,Q2 c5]
      rw[QKG _ _ c5]at hB
      refine QR i37 fun T=>?_
      (repeat' ((conv=>whnf);first|refine cEk hP1 ?_|refine cEk hP2 ?_|refine cEk hA ?_|refine cEk hB ?_|refine CallE.inl ?_|refine cPk hP1 ?_|refine cPk hP2 ?_|refine cPk hA ?_|refine cPk hB ?_|refine CallI.h hNw [0] ?_|((with_reducible refine QK ?_);first|refine QH QA mixed (by decide+kernel) ?_|refine QF QA mixed 0 (by decide+kernel) ?_)|refine QB ?_|intro x hx hu|intro h|refine Spp.mk ?_ ?_))
      all_goals first|(exfalso;omega)|skip
      all_goals first|exact QY rfl (ai rfl trivial) (ai rfl (ai rfl trivial))|(exfalso;simp_all;done)
   ·rw [if_pos c3,Q2 c3]
    rw[QKG _ _ c3]at hA
    refine QR i37 fun T=>?_
    (repeat' ((conv=>whnf);first|refine cEk hP1 ?_|refine cEk hP2 ?_|refine cEk hA ?_|refine CallE.inl ?_|refine cPk hP1 ?_|refine cPk hP2 ?_|refine cPk hA ?_|refine CallI.h hNw [0] ?_|((with_reducible refine QK ?_);first|refine QH QA mixed (by decide+kernel) ?_|refine QF QA mixed 0 (by decide+kernel) ?_)|refine QB ?_|intro x hx hu|intro h|refine Spp.mk ?_ ?_))
    all_goals first|(exfalso;omega)|skip
    all_goals first|exact QY rfl (ai rfl trivial) (ai rfl (ai rfl trivial))|(exfalso;simp_all;done)
  ·rw [if_pos c2,Q2 c2]
   refine QR i37 fun T=>?_
   (repeat' ((conv=>whnf);first|refine cEk hP1 ?_|refine cEk hP2 ?_|refine CallE.inl ?_|refine cPk hP1 ?_|refine cPk hP2 ?_|refine CallI.h hNw [0] ?_|((with_reducible refine QK ?_);first|refine QH QA mixed (by decide+kernel) ?_|refine QF QA mixed 0 (by decide+kernel) ?_)|refine QB ?_|intro x hx hu|intro h|refine Spp.mk ?_ ?_))
   all_goals first|(exfalso;omega)|skip
   all_goals first|exact QY rfl (ai rfl trivial) (ai rfl (ai rfl trivial))|(exfalso;simp_all;done)
 ·rw [if_pos c1,Q2 c1]
  refine QR i37 fun T=>?_
  (repeat' ((conv=>whnf);first|refine cEk hP1 ?_|refine cEk hP2 ?_|refine CallE.inl ?_|refine cPk hP1 ?_|refine cPk hP2 ?_|refine CallI.h hNw [0] ?_|((with_reducible refine QK ?_);first|refine QH QA mixed (by decide+kernel) ?_|refine QF QA mixed 0 (by decide+kernel) ?_)|refine QB ?_|intro x hx hu|intro h|refine Spp.mk ?_ ?_))
  all_goals first|(exfalso;omega)|skip
  all_goals first|exact QY rfl (ai rfl trivial) (ai rfl (ai rfl trivial))|(exfalso;simp_all;done)
end Go.Proofs.YtikgcbioagmkkaaGreatDoor
