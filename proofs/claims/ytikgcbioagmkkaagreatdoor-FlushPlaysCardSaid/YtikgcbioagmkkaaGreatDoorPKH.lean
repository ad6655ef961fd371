/- Contracts of the functions that the law reaches, and the law. Conditions: none. -/
import Derived.Test.YtikgcbioagmkkaaGreatDoorPKD
set_option maxRecDepth 100000
set_option linter.all false
set_option maxHeartbeats 16000000
namespace Go.Proofs.YtikgcbioagmkkaaGreatDoor
open Go.Sy
def pureL:List AV->Option (List AV)
 |[]=>some []
 |u::l=>match u.pure1,pureL l with
  |some v,some l'=>some (v::l')
  |_,_=>none
theorem ArF.of{mem:List (Nat×Ob)}:∀ {l l':List AV},pureL l=some l'->ArF mem l l'
 |[],l',h=>by
  obtain rfl:=za h;exact .nil
 |u::l,l',h=>by
  unfold pureL at h;split at h
  ·rename_i v m h1 h2;obtain rfl:=za h;exact .pl _ _ _ _ h1 (ArF.of h2)
  ·cases h
variable {N f:Nat}
variable {σ:S}
variable {l l':List AV}
variable {K:S->Prop}
theorem rFd{o:Oper}{r:AV}(h:FnC Tryz.prog f l' r)(k:K (σ.put o.dst r))(hA:ArF σ.mem l l':=by first|exact ArF.fr _ _ _ _ (frG wu wu wu) (ArF.of wu)|exact ArF.fr _ _ _ _ (frD wu wu) (ArF.of wu))
  (hr:r.flatP=true:=by with_unfolding_all exact rfl):CallI Tryz.prog N o σ f l K:=rF h k hA hr
theorem rRd{mem:List (Nat×Ob)}{K:AV->Prop}{r:AV}(h:FnC Tryz.prog f l' r)(k:K r)(hA:ArF mem l l':=by first|exact ArF.fr _ _ _ _ (frG wu wu wu) (ArF.of wu)|exact ArF.fr _ _ _ _ (frD wu wu) (ArF.of wu))
  (hr:r.flatP=true:=by with_unfolding_all exact rfl):Jj Tryz.prog mem f l K:=rR h k hA hr
def QNW(b:Bool)(bad:List Int)(d:Dk)(T:Nat->Nat)(af:Int)(an:List UInt8)(ak cf:Int)(cn:List UInt8)(ck:Int)(xu:Bool)(xt:Int):S:=⟨[(0,.ptr 5 0),(8,.ptr 10 0),(10,.ptr 12 0),(11,.ptr 14 0)],(10,.cells 3 [.d (.it .i64 af),.d (.st an),.d (.it .i64 ak)])::(12,.cells 3 [.d (.it .i64 cf),.d (.st cn),.d (.it .i64 ck)])::(14,.cells 4 [.d (.bl xu),.d (.it .i64 cf),.d (.st cn),.d (.it .i64 xt)])::(Qa b bad d++Qr 6 [0,5] T),16⟩
theorem QBK{P:Program}{ti:Nat->Option Ty}{ops:List Oper}(h:QX P ti N 18 ops σ K):QX P ti N 18 ops σ K:=h
theorem QJP{τ:S}(h:Wk N σ τ):Wk N σ τ:=h
theorem QLt{b:Bool}{bad:List Int}{d:Dk}(h:Fd bad d N)(frm tq:List UInt8)(hp:frm.length<=100000)(hq:tq.length<=100000):
  FnH Tryz.prog 91 [.ptr 5 0,.d (.st frm),.d (.st tq)] (Qa b bad d) 6 [0,5] (.d (.it .i64 (runP bad d (QBm (rdS (some d)) frm tq)).2)) (Qa b bad (runP bad d (QBm (rdS (some d)) frm tq)).1) 6:=by
 have hS:=QRb frm tq hp hq;have hA:=QNE d h.ok frm hp;have hB:=QD6 d h.ok tq hq;have ka:=QBt (f:=rdS (some d)) (p:=frm);have kb:=QBt (f:=rdS (some d)) (p:=tq);have hE:=YH (some d) h.ok (ZS (rdS (some d)) frm).1.k;have hE2:=YH (some d) h.ok (ZS (rdS (some d)) tq).1.k;have hK:=QBr d h.ok (QG (rdS (some d)) (ZS (rdS (some d)) frm).1.k).t;have hK2:=QBr d h.ok (QG (rdS (some d)) (ZS (rdS (some d)) tq).1.k).t;have hDp:=QLr frm tq hp hq;have hM:=fun(ha:0<=(ZS (rdS (some d)) frm).1.k)=>QPZ (b:=b) h (ZS (rdS (some d)) frm).1 (ZS (rdS (some d)) tq).1 ⟨(QG (rdS (some d)) (ZS (rdS (some d)) frm).1.k).u,(ZS (rdS (some d)) tq).1.fo,(ZS (rdS (some d)) tq).1.nm,(QG (rdS (some d)) (ZS (rdS (some d)) frm).1.k).t⟩ ⟨ha,ka.2⟩ kb;have hSt:=JM (ZS (rdS (some d)) tq).1;unfold QBm QM2;generalize ZS (rdS (some d)) frm=a at*
 generalize ZS (rdS (some d)) tq=c at*
 generalize Zq frm=u at*
 generalize Zq tq=v at*
 generalize QG (rdS (some d)) a.1.k=x at*
 generalize QG (rdS (some d)) c.1.k=y at*
 generalize QJA frm tq=dp at*
 obtain⟨u1,u2,u3⟩:=u;obtain⟨v1,v2,v3⟩:=v;obtain⟨⟨af,an,ak⟩,e⟩:=a;obtain⟨⟨cf,cn,ck⟩,g⟩:=c;obtain⟨xu,xp,xn,xt⟩:=x;obtain⟨yu,yp,yn,yt⟩:=y;dsimp only at*
 generalize (Qu (rdS (some d)) xt).k=k1 at*
 generalize (Qu (rdS (some d)) yt).k=k2 at*
 replace hE:FnC Tryz.prog 113 [.d (Qg (some d)),.d (.it .i64 ak)] (.dg 4 [.bl xu,.it .i64 xp,.st xn,.it .i64 xt]):=hE;replace hE2:FnC Tryz.prog 113 [.d (Qg (some d)),.d (.it .i64 ck)] (.dg 4 [.bl yu,.it .i64 yp,.st yn,.it .i64 yt]):=hE2;replace hB:FnC Tryz.prog 144 [.d (.fp 1 [Qg (some d)]),.d (.st tq)] (.tup [.dg 3 [.it .i64 cf,.st cn,.it .i64 ck],.d (.it .i64 g)]):=hB;replace hSt:FnC Tryz.prog 146 [.dg 3 [.it .i64 cf,.st cn,.it .i64 ck]] (.d (.bl (decide (0<=ck)))):=hSt;unfold QLi at hA;dsimp only at hA;by_cases c1:u3=0
 ·subst c1;rw[if_neg (by simp)]at hS;rw[if_neg (by simp)];by_cases c2:v3=0
  ·subst c2;rw[if_neg (by simp)];by_cases c3:e=0
   ·subst c3;rw[if_neg (by simp)];by_cases c4:ak<0
    ·rw [if_pos ⟨rfl,c4⟩]at hA;rw[if_pos c4,ZA (by decide)];replace hA:FnC Tryz.prog 126 [.d (.fp 1 [Qg (some d)]),.d (.st frm)] (.tup [.dg 3 [.it .i64 af,.st an,.it .i64 ak],.d (.it .i64 4)]):=hA;refine QL i91 λT=>?_;(repeat' (conv=>whnf);first|refine cXk hS ?_|refine cI i50 ?_|refine rFd hA ?_|refine rRd hA ?_|refine gD ?_|refine gOI ?_|intro x hx hu|intro h|apply sS);all_goals try omega
     all_goals first|exact QH|(exfalso;simp_all;done)
    ·rw [if_neg (λx=>c4 x.2)]at hA;rw[if_neg c4];have hM:=hM om;replace hA:FnC Tryz.prog 126 [.d (.fp 1 [Qg (some d)]),.d (.st frm)] (.tup [.dg 3 [.it .i64 af,.st an,.it .i64 ak],.d (.it .i64 0)]):=hA;replace hM:FnH Tryz.prog 147 [.ptr 5 0,.dg 3 [.it .i64 af,.st an,.it .i64 ak],.dg 3 [.it .i64 cf,.st cn,.it .i64 ck],.dg 4 [.bl xu,.it .i64 cf,.st cn,.it .i64 xt]] (Qa b bad d) 6 [0,5] _ _ _:=hM;by_cases c5:g=0
     ·subst c5;rw[if_neg (by simp)];by_cases c6:frm=tq
      ·rw [if_pos (.inl c6),Z8];refine QL i91 λT=>?_;(repeat' (conv=>whnf);first|refine cXk hS ?_|refine cI i50 ?_|refine rFd hA ?_|refine rFd hB ?_|refine rRd hA ?_|refine rRd hB ?_|refine gD ?_|refine gOI ?_|intro x hx hu|intro h|apply sS);all_goals try omega
       all_goals first|exact QH|(exfalso;simp_all;done)
      ·by_cases c7:ck=ak
       ·rw [if_pos (.inr c7),Z8];refine QL i91 λT=>?_;(repeat' (conv=>whnf);first|refine cXk hS ?_|refine cI i50 ?_|refine rFd hA ?_|refine rFd hB ?_|refine rRd hA ?_|refine rRd hB ?_|refine gD ?_|refine gOI ?_|intro x hx hu|intro h|apply sS);all_goals try omega
        all_goals first|exact QH|(exfalso;simp_all;done)
       ·rw [if_neg (by rintro(x|x);exact c6 x;exact c7 x)];by_cases c8:k1=2
        ·subst c8;cases dp with
         |true=>
          rw[if_pos ⟨rfl,rfl⟩,ZA (by decide)];refine QL i91 λT=>?_;(repeat' (conv=>whnf);first|refine cXk hS ?_|refine cXk hDp ?_|refine cI i50 ?_|refine rFd hA ?_|refine rFd hB ?_|refine rFd hE ?_|refine rFd hK ?_|refine rRd hA ?_|refine rRd hB ?_|refine rRd hE ?_|refine rRd hK ?_|refine gD ?_|refine gOI ?_|intro x hx hu|intro h|apply sS);all_goals try omega
          all_goals first|exact QH|(exfalso;simp_all;done)
         |false=>
          rw[if_neg (by simp)];by_cases c9:0<=ck
          ·rw [if_pos ⟨c9,.inl rfl⟩,ZA (by decide)];rw[decide_eq_true c9]at hSt;refine QL i91 λT=>?_;(repeat' (conv=>whnf);first|refine cXk hS ?_|refine cXk hSt ?_|refine cXk hDp ?_|refine cI i50 ?_|refine rFd hA ?_|refine rFd hB ?_|refine rFd hE ?_|refine rFd hK ?_|refine rRd hA ?_|refine rRd hB ?_|refine rRd hE ?_|refine rRd hK ?_|refine gD ?_|refine gOI ?_|intro x hx hu|intro h|apply sS);all_goals try omega
           all_goals first|exact QH|(exfalso;simp_all;done)
          ·rw [if_neg (λx=>c9 x.1)];rw[decide_eq_false c9]at hSt;refine QL i91 λT=>?_;(repeat' (conv=>whnf);first|refine cXk hS ?_|refine cXk hSt ?_|refine cXk hDp ?_|refine cI i50 ?_|refine rFd hA ?_|refine rFd hB ?_|refine rFd hE ?_|refine rFd hK ?_|refine CallI.h hM [0,1,2,3,4,5] ?_|((with_reducible refine QBK ?_);refine QX.mid (QNW b bad d T af an ak cf cn ck xu xt) (Xs QB mixed [] dkk ?_) ?_)|((with_reducible refine QJP ?_);exact Wk.e)|with_reducible exact trivial|with_reducible refine Br.mk ?_ ?_|refine rRd hA ?_|refine rRd hB ?_|refine rRd hE ?_|refine rRd hK ?_|refine gD ?_|refine gOI ?_|intro x hx hu|intro h|apply sS);all_goals try omega
           all_goals first|exact QH|(exfalso;simp_all;done)
        ·rw [if_neg (λx=>c8 x.1)];by_cases c9:0<=ck
         ·rw [decide_eq_true c9]at hSt;by_cases cA:k2=2
          ·subst cA;rw[if_pos ⟨c9,.inr rfl⟩,ZA (by decide)];refine QL i91 λT=>?_;(repeat' (conv=>whnf);first|refine cXk hS ?_|refine cXk hSt ?_|refine cI i50 ?_|refine rFd hA ?_|refine rFd hB ?_|refine rFd hE ?_|refine rFd hK ?_|refine rFd hE2 ?_|refine rFd hK2 ?_|refine rRd hA ?_|refine rRd hB ?_|refine rRd hE ?_|refine rRd hK ?_|refine rRd hE2 ?_|refine rRd hK2 ?_|refine gD ?_|refine gOI ?_|intro x hx hu|intro h|apply sS);all_goals try omega
           all_goals first|exact QH|(exfalso;simp_all;done)
          ·rw [if_neg (by rintro⟨_,x|x⟩;exact c8 x;exact cA x)];refine QL i91 λT=>?_;(repeat' (conv=>whnf);first|refine cXk hS ?_|refine cXk hSt ?_|refine cI i50 ?_|refine rFd hA ?_|refine rFd hB ?_|refine rFd hE ?_|refine rFd hK ?_|refine rFd hE2 ?_|refine rFd hK2 ?_|refine CallI.h hM [0,1,2,3,4,5] ?_|((with_reducible refine QBK ?_);refine QX.mid (QNW b bad d T af an ak cf cn ck xu xt) (Xs QB mixed [] dkk ?_) ?_)|((with_reducible refine QJP ?_);exact Wk.e)|with_reducible exact trivial|with_reducible refine Br.mk ?_ ?_|refine rRd hA ?_|refine rRd hB ?_|refine rRd hE ?_|refine rRd hK ?_|refine rRd hE2 ?_|refine rRd hK2 ?_|refine gD ?_|refine gOI ?_|intro x hx hu|intro h|apply sS);all_goals try omega
           all_goals first|exact QH|(exfalso;simp_all;done)
         ·rw [if_neg (λx=>c9 x.1)];rw[decide_eq_false c9]at hSt;refine QL i91 λT=>?_;(repeat' (conv=>whnf);first|refine cXk hS ?_|refine cXk hSt ?_|refine cI i50 ?_|refine rFd hA ?_|refine rFd hB ?_|refine rFd hE ?_|refine rFd hK ?_|refine CallI.h hM [0,1,2,3,4,5] ?_|((with_reducible refine QBK ?_);refine QX.mid (QNW b bad d T af an ak cf cn ck xu xt) (Xs QB mixed [] dkk ?_) ?_)|((with_reducible refine QJP ?_);exact Wk.e)|with_reducible exact trivial|with_reducible refine Br.mk ?_ ?_|refine rRd hA ?_|refine rRd hB ?_|refine rRd hE ?_|refine rRd hK ?_|refine gD ?_|refine gOI ?_|intro x hx hu|intro h|apply sS);all_goals try omega
          all_goals first|exact QH|(exfalso;simp_all;done)
     ·rw [if_pos c5,ZA c5];refine QL i91 λT=>?_;(repeat' (conv=>whnf);first|refine cXk hS ?_|refine cI i50 ?_|refine rFd hA ?_|refine rFd hB ?_|refine rRd hA ?_|refine rRd hB ?_|refine gD ?_|refine gOI ?_|intro x hx hu|intro h|apply sS);all_goals try omega
      all_goals first|exact QH|(exfalso;simp_all;done)
   ·rw [if_neg (λx=>c3 x.1)]at hA;rw[if_pos c3,ZA c3];replace hA:FnC Tryz.prog 126 [.d (.fp 1 [Qg (some d)]),.d (.st frm)] (.tup [.dg 3 [.it .i64 af,.st an,.it .i64 ak],.d (.it .i64 e)]):=hA;refine QL i91 λT=>?_;(repeat' (conv=>whnf);first|refine cXk hS ?_|refine cI i50 ?_|refine rFd hA ?_|refine rRd hA ?_|refine gD ?_|refine gOI ?_|intro x hx hu|intro h|apply sS);all_goals try omega
    all_goals first|exact QH|(exfalso;simp_all;done)
  ·rw [if_pos c2,ZA c2];refine QL i91 λT=>?_;(repeat' (conv=>whnf);first|refine cXk hS ?_|refine cI i50 ?_|refine gD ?_|refine gOI ?_|intro x hx hu|intro h|apply sS);all_goals try omega
   all_goals first|exact QH|(exfalso;simp_all;done)
 ·rw [if_pos c1]at hS;rw[if_pos c1,ZA c1];refine QL i91 λT=>?_;(repeat' (conv=>whnf);first|refine cXk hS ?_|refine cI i50 ?_|refine gD ?_|refine gOI ?_|intro x hx hu|intro h|apply sS);all_goals try omega
  all_goals first|exact QH|(exfalso;simp_all;done)
end Go.Proofs.YtikgcbioagmkkaaGreatDoor
