/- Contracts of the functions that the law reaches, and the law. Conditions: none. -/
import Derived.Test.YtikgcbioagmkkaaGreatDoorCKI
import Derived.Test.YtikgcbioagmkkaaGreatDoorCKK
import Derived.Test.YtikgcbioagmkkaaGreatDoorCKD
set_option maxRecDepth 100000
set_option linter.all false
set_option maxHeartbeats 16000000
namespace Go.Proofs.YtikgcbioagmkkaaGreatDoor
open Go.Sy
theorem QHW(b:Bool)(bad:List Int)(d:Dk):FnH Tryz.prog 11 [.ptr 5 0] (Qx b bad d) 6 [0,5] (.ptr 0 0) (Qx b bad d) 6:=by
 refine QV i11 λT=>?_;(repeat' (conv=>whnf);first|refine cI i50 ?_|refine gOI ?_|intro x hx hu|intro h|apply sS);all_goals try omega
 exact QO
theorem QPe{l:List Act}(h:QEM l 30=true):l.length<=30/\∀a∈l,QNF a:=by
 unfold QEM at h;rw[zf,decide_eq_true_eq,zb]at h;refine⟨by omega,λa ha=>?_⟩;have:=of_decide_eq_true (h.1 a (by rw[yd om];exact ha));exact⟨this.1,this.2.1,this.2.2.1,this.2.2.2⟩
variable {d:Dk}
variable {N:Nat}
theorem QNk(h:Fd [] d N)(c:Cln (rdS (some d))):FnC Tryz.prog 44 [.d (QQ (some d))] (.d (.bl true)):=by
 have:=QBN (some d) h.ok;rw[decide_eq_true ((QKD h.n).2 c)]at this;exact this
theorem QNl(h:Fd [] d N)(c:Xr (rdS (some d))):FnC Tryz.prog 45 [.d (QQ (some d))] (.d (.bl true)):=by
 have:=QAq (some d) h.ok;rw[decide_eq_true ((QJ9 h.n).2 c)]at this;exact this
structure CSt where
 i:Nat
 d:Dk
def csA(L:List (List D)):CSt->S|⟨i,d⟩=>⟨[(1,.d (.fs 6 L)),(5,.ptr 6 0),(6,.d (.it .i64 (i:Nat)))],QKA false [] d,7⟩
def csB(L:List (List D))(i:Nat)(d:Dk)(sl:List (Nat×AV)):S:=⟨(1,.d (.fs 6 L))::(5,.ptr 6 0)::(6,.d (.it .i64 (i:Nat)))::sl,QKA false [] d,7⟩
theorem QRd{P:Program}{o:Oper}{σ:S}{l:List AV}{K:S->Prop}(h:CallI P N o σ 11 l K):CallI P N o σ 11 l K:=h
theorem QPf(image:List (List UInt8))(hm:QDN image)(acts:List Act):FnC Tryz.prog 6 [.d (QAe image),.d (.fs 6 (acts.map QB5))] (.d (.bl true)):=by
 have hK:=QIx;have hL:=QNO acts 30;have hil:(image.map QJ).length=image.length:=ze ..;have hal:(acts.map QB5).length=acts.length:=ze ..;by_cases c1:image.length>200
 ·refine QK i6 ?_;(repeat' (conv=>whnf);first|refine cEk hL ?_|refine cEk hK ?_|refine gOI ?_|intro x hx hu|intro h|apply sS);all_goals first|omega|rfl
 by_cases c2:QEM acts 30=true
 case neg=>
  rw[show QEM acts 30=false by simpa using c2]at hL;refine QK i6 ?_;(repeat' (conv=>whnf);first|refine cEk hL ?_|refine cEk hK ?_|refine gOI ?_|intro x hx hu|intro h|apply sS);all_goals first|omega|rfl
 obtain⟨hl30,hlt⟩:=QPe c2;rw[c2]at hL;by_cases c4:1<=image.length/\image.length<=65
 case neg=>
  have hF:=QLc image c4;refine QK i6 ?_;(repeat' (conv=>whnf);first|refine cEk hL ?_|refine cEk hK ?_|refine cEk hF ?_|refine gOI ?_|intro x hx hu|intro h|apply sS);all_goals first|omega|rfl
 by_cases c5:J0 image
 case neg=>
  have hF:=QLd image hm c4 c5;refine QK i6 ?_;(repeat' (conv=>whnf);first|refine cEk hL ?_|refine cEk hK ?_|refine cEk hF ?_|refine gOI ?_|intro x hx hu|intro h|apply sS);all_goals first|omega|rfl
 have hF:=QNN image hm c5;have f0:Fd [] (dk0 image) 0:=Fd.dk0 hm c5.1;have hi0:Xa (some (dk0 image))=image:=QDj (dk0 image);have m0:Xr (rdS (some (dk0 image))):=(QJ9 f0.n).1 (by rw[hi0];exact c5);generalize dk0 image=d0 at*
 have hdk:=QHW false [] d0;have hCl:=QBN (some d0) f0.ok;by_cases c6:J2 (dod (some d0)) (xI (rdS (some d0)) 16) (xE (rdS (some d0)) 24) (QEN (some d0))=[]
 case neg=>
  rw[decide_eq_false c6]at hCl;refine QK i6 ?_;(repeat' (conv=>whnf);first|refine cEk hL ?_|refine cEk hK ?_|refine CallI.byH hF [] rfl ⟨rfl,by decide,by with_unfolding_all exact rfl⟩ trivial rfl rfl ?_|refine CallI.h hdk [1,2,3,4,5,6] ?_|refine rFk hCl ?_|refine gD ?_|refine gOI ?_|intro x hx hu|intro h|apply sS);all_goals first|omega|rfl
 have cl0:=(QKD f0.n).1 c6;rw[decide_eq_true c6]at hCl;clear c6;refine QK i6 ?_;(repeat' (conv=>whnf);first|refine cEk hL ?_|refine cEk hK ?_|refine CallI.byH hF [] rfl ⟨rfl,by decide,by with_unfolding_all exact rfl⟩ trivial rfl rfl ?_|refine CallI.h hdk [1,2,3,4,5,6] ?_|refine rFk hCl ?_|refine gD ?_|refine gOI ?_|intro x hx hu|intro h|apply sS);all_goals try omega
 conv=>whnf
 refine Qa QE (λs:CSt=>s.i<=acts.length/\Fd [] s.d (5*s.i)/\Cln (rdS (some s.d))/\Xr (rdS (some s.d))) (csA (acts.map QB5)) (λs=>acts.length-s.i) ⟨0,d0⟩ ⟨yc _,f0,cl0,m0⟩ Wk.e ?_;intro⟨i,d⟩ hs;have hi:=hs.1;have hfd:=hs.2.1;have hc:=hs.2.2.1;have hmt:=hs.2.2.2;dsimp only at hi hfd hc hmt;clear hs hF f0 hK hL hCl cl0 m0 hdk;by_cases hil:i<acts.length
 ·obtain ⟨a,hx⟩:=Q8 hil;have ha:=hlt a (yw hx);have hba:=ha.bad;by_cases h7:a.k=7
  ·obtain ⟨k,p1,q,n,bb,ba⟩:=a;dsimp only at*
   subst h7;(repeat' (conv=>whnf);first|with_reducible refine Zr hx ?_|refine gOI ?_|intro x hx hu|intro h|apply sS);all_goals try omega
   exact⟨⟨i+1,d⟩,⟨hil,hfd.mono (by dsimp only;omega) (by dsimp only;omega),hc,hmt⟩,by first|omega|(dsimp only;omega),Wk.en (⟨ai rfl (ai rfl (ai (QM om) trivial)),rr,rfl⟩)⟩
  ·have hDo:=QPJ (b:=false) hfd a ha h7;have hw:=QNM hfd hc hmt a;have hf':=hfd.doR a om;generalize doR [] d a=R at*
   have hCl:=QNk hf' hw.c;have hMt:=QNl hf' hw.m;have hdk:=QHW false [] R.1;obtain⟨k,p1,q,n,bb,ba⟩:=a;dsimp only at*
   replace hDo:FnH Tryz.prog 10 [.ptr 5 0,.dg 6 [.it .i64 k,.st p1,.st q,.it .i64 n,.fs 1 (QG bb),.fs 1 (vI ba)]] (Qx false [] d) 6 [0,5] (.d (.it .i64 R.2)) (Qx false [] R.1) 6:=hDo;(repeat' (conv=>whnf);first|with_reducible refine Zr hx ?_|((with_reducible refine QRd ?_);first|(refine CallI.wk (τ:=csB (acts.map QB5) i R.1 [(48,.ptr 6 0)]) Wk.e ⟨_,_,_,_,_,_,rfl,rfl,rfl,rfl⟩ ?_;refine CallI.h hdk [1,2,3,4,5,6] ?_)|(refine CallI.wk (τ:=csB (acts.map QB5) i R.1 [(52,.d (.bl false)),(53,.ptr 6 0)]) Wk.e ⟨_,_,_,_,_,_,rfl,rfl,rfl,rfl⟩ ?_;refine CallI.h hdk [1,2,3,4,5,6] ?_))|refine CallI.h hDo [1,2,3,4,5,6] ?_|refine rFk hCl ?_|refine rFk hMt ?_|refine gOI ?_|intro x hx hu|intro h|apply sS);all_goals try omega
   exact⟨⟨i+1,R.1⟩,⟨hil,hf',hw.c,hw.m⟩,by first|omega|(dsimp only;omega),Wk.en (⟨ai rfl (ai rfl (ai (QM om) trivial)),rr,rfl⟩)⟩
 ·(repeat' (conv=>whnf);first|refine gOI ?_|intro x hx hu|intro h|apply sS);all_goals try omega
  rfl
end Go.Proofs.YtikgcbioagmkkaaGreatDoor
