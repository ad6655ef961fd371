/- Contracts of the functions that the law reaches, and the law. Conditions: none. -/
import Derived.Test.YtikgcbioagmkkaaGreatDoorPKI
set_option maxRecDepth 100000
set_option linter.all false
set_option maxHeartbeats 16000000
namespace Go.Proofs.YtikgcbioagmkkaaGreatDoor
open Go.Sy
def QVP(acts:List Act):LSt->S|⟨i,b,bad,d⟩=>⟨[(1,.d (.fs 6 (acts.map ZV))),(5,.ptr 0 0),(7,.ptr 6 0),(9,.ptr 5 0),(14,.d (.it .i64 (i:Nat)))],Qa b bad d++[(6,rOb bad d)],7⟩
variable {P:Program}
variable {N:Nat}
variable {ops:List Oper}
variable {σ:S}
variable {K:S->Prop}
theorem QP4{ti:Nat->Option Ty}(h:QX P ti N 13 ops σ K):QX P ti N 13 ops σ K:=h
theorem QKn{ti:Nat->Option Ty}(h:QX P ti N 19 ops σ K):QX P ti N 19 ops σ K:=h
theorem QP5(image:List (List UInt8))(hm:XL image)(acts:List Act):FnC Tryz.prog 4 [.d (Q9 image),.d (.fs 6 (acts.map ZV))] (.d (.bl true)):=by
 have hK:=QJQ;have hL:=QNf acts 30;have hil:(image.map QF).length=image.length:=zb ..;have hal:(acts.map ZV).length=acts.length:=zb ..;by_cases c1:image.length>200
 ·refine QJ i4 ?_;(repeat' (conv=>whnf);first|refine cEk hL ?_|refine cEk hK ?_|refine gOI ?_|intro x hx hu|intro h|apply sS);all_goals first|omega|rfl
 by_cases c2:QE0 acts 30=true
 case neg=>
  rw[show QE0 acts 30=false by simpa using c2]at hL;refine QJ i4 ?_;(repeat' (conv=>whnf);first|refine cEk hL ?_|refine cEk hK ?_|refine gOI ?_|intro x hx hu|intro h|apply sS);all_goals first|omega|rfl
 obtain⟨hl30,hlt⟩:=QRo c2;rw[c2]at hL;have n1:=QAK 1;have w1:=QPu (.inl rfl) [47];have w2:=QPq (.inl rfl) [47];have w3:=QPr (.inr rfl) [47];have w4:=QPs (.inl rfl) [97];have w5:=QPt (.inl rfl);by_cases c3:1<=image.length/\image.length<=65
 case neg=>
  have hF:=QNj image c3;have hG:=QNl image c3;have hMt:FnC Tryz.prog 20 [.d (.ot (.pointer none))] (.tup [.d (.ot (.pointer none)),.d (.it .i64 1)]):=by
   have h:=QHj none trivial;rw[show QCV none= .tup [.d (.ot (.pointer none)),.d (.it .i64 1)] by unfold QCV;rw[if_neg (by decide)];rfl]at h;exact h
  refine QJ i4 ?_;(repeat' (conv=>whnf);first|refine cEk hL ?_|refine cEk hK ?_|refine cEk hF ?_|refine cEk hG ?_|refine cEk hMt ?_|refine cEk w1 ?_|refine cEk w2 ?_|refine cEk w4 ?_|refine cEk w5 ?_|refine cEk n1 ?_|refine CallI.byR (Jj.mkF ⟨_,_,ArF.fr _ _ _ _ (frN wu) (ArF.pl _ _ _ _ rfl ArF.nil),w3,wu,?_⟩)|refine gOI ?_|intro x hx hu|intro h|apply sS);all_goals first|omega|rfl
 have hd0:Xu (some (dk0 image)):=⟨hm,λw hw=>(by cases hw),c3.2,z7 _⟩;have hF:=QH2 image c3;have hG:FnH Tryz.prog 19 [.d (Q9 image)] [] 0 [] (.tup [.ptr 3 0,.d (.it .i64 0)]) [(3,rOb [] (dk0 image))] 4:=QNq image hm c3;have hi0:Y9 (some (dk0 image))=image:=QH3 (dk0 image);have hNF:FnH Tryz.prog 18 [.d (Q9 image)] [] 0 [] (.tup [.ptr 7 0,.d (.it .i64 0)]) (QH1 7 9 10 8 6 false [] (dk0 image)) 11:=hF;clear hF;by_cases c4:QBk image
 case neg=>
  have hMt:=QHj (some (dk0 image)) hd0;rw[show QCV (some (dk0 image))= .tup [.d (.ot (.pointer none)),.d (.it .i64 8)] by
   unfold QCV;rw[hi0,if_neg c4,if_neg (λh=>by have h':image=[]:=h;rw[h']at c3;simp at c3)]]at hMt
  generalize dk0 image=d0 at*
  refine QJ i4 ?_;(repeat' (conv=>whnf);first|refine cEk hL ?_|refine cEk hK ?_|refine cEk w1 ?_|refine cEk w2 ?_|refine cEk w4 ?_|refine cEk w5 ?_|refine cEk n1 ?_|refine CallI.byH hNF [] rfl ⟨rfl,by decide,by with_unfolding_all exact rfl⟩ trivial rfl rfl ?_|refine CallI.byH hG [] rfl ⟨rfl,by decide,by with_unfolding_all exact rfl⟩ trivial rfl rfl ?_|refine rFk hMt ?_|refine CallI.byR (Jj.mkF ⟨_,_,ArF.fr _ _ _ _ (frN wu) (ArF.pl _ _ _ _ rfl ArF.nil),w3,wu,?_⟩)|refine gOI ?_|intro x hx hu|intro h|apply sS);all_goals first|omega|rfl
 have f0:Fd [] (dk0 image) 0:=Fd.dk0 hm c4.1;have hMt:=QEM (b:=false) f0 (by rw[hi0];exact c4);generalize dk0 image=d0 at*
 refine QJ i4 ?_;(repeat' (conv=>whnf);first|refine cEk hL ?_|refine cEk hK ?_|refine CallI.byH hNF [] rfl ⟨rfl,by decide,by with_unfolding_all exact rfl⟩ trivial rfl rfl ?_|refine CallI.byH hG [] rfl ⟨rfl,by decide,by with_unfolding_all exact rfl⟩ trivial rfl rfl ?_|refine CallI.h hMt [7,9,10,8,6] ?_|refine gOI ?_|intro x hx hu|intro h|apply sS);all_goals try omega
 conv=>whnf
 refine Ql QB (λs:LSt=>s.i<=acts.length/\Fd s.bad s.d (5*s.i)) (QVP acts) (λs=>acts.length-s.i) ⟨0,false,[],d0⟩ ⟨z7 _,f0⟩ (Wk.ren (λj=>match j with|0=>7|1=>9|2=>10|3=>8|4=>6|5=>23|6=>14|j=>j) rr rr rfl rfl) ?_;intro⟨i,b,bad,d⟩ hs;have hi:=hs.1;have hfd:=hs.2;dsimp only at hi hfd;clear hs hNF hG hMt hi0 f0 hK hL w1 w2 w3 w4 w5 n1;by_cases hil:i<acts.length
 ·obtain ⟨a,hx⟩:=Qo hil;have ha:=hlt a (ya hx);have hap:=ha.p;obtain⟨b',bad',d',e,hDo,hRf,hf'⟩:∃b' bad' d' e,FnH Tryz.prog 10 [.ptr 5 0,.dg 6 (ZV a)] (Qa b bad d) 6 [0,5] (.d (.it .i64 e)) (Qa b' bad' d') 6/\FnH Tryz.prog 24 [.ptr 0 0,.dg 6 (ZV a)] (Qp bad d) 1 [0] (.d (.it .i64 e)) (Qp bad' d') 1/\Fd bad' d' (5*(i+1)):=by
   by_cases h7:a.k=7
   ·exact ⟨true,a.bad,z0f d,0,QRk hfd a ha h7,QRl hfd a ha h7,(hfd.z0f (by have:=ha.bad;omega)).mono om om⟩
   ·exact ⟨b,bad,(doR bad d a).1,(doR bad d a).2,QPn hfd a ha h7,QPo hfd om a ha h7,hfd.doR a om⟩
  have hW:=QHv (b:=b') hf' a.p om;have hRw:=QPk hf' a.p om;generalize QEz d' a.p=q at*
  obtain⟨c,e2⟩:=q;have hn2:=QAK e2;obtain⟨k,p1,q1,n,bb,ba⟩:=a;dsimp only at*
  (repeat' (conv=>whnf);first|with_reducible refine Qk hx ?_|((with_reducible refine QP4 ?_);refine QX.wk (τ:=prS [(1,.d (.fs 6 (acts.map ZV))),(5,.ptr 0 0),(7,.ptr 6 0),(9,.ptr 5 0),(14,.d (.it .i64 (i:Nat)))] (Qa b bad d) (rOb bad d)) Wk.e (QTp hx hDo hRf ?_))|with_reducible refine Spl.no (QNd _) ?_|refine cEk hn2 ?_|refine ZK.mk ⟨_,hn2,?_⟩|refine CallI.h hW [0,1,2,3,4,5] ?_|refine CallI.h hRw [6] ?_|refine gOI ?_|intro x hx hu|intro h|apply sS);all_goals try omega
  exact⟨⟨i+1,b',bad',d'⟩,⟨hil,hf'⟩,by first|omega|(dsimp only;omega),Wk.en (⟨ai rfl (ai rfl (ai rfl (ai rfl (ai (QK om) trivial)))),rr,rfl⟩)⟩
 ·have hlg:=hfd.lg;have hN:=hfd.hN;have hlen:=hfd.b.l;have hwln:=hfd.b.w;have g3:=QHu (b:=b) hfd;have g4:=QPp d.wait hfd.w om;rcases QNg hlg with hz|⟨es,hne,hz,hes⟩
  ·have g1:=QNe (b:=b) hfd hz;have g2:=QKV [] (λe he=>(by cases he)) (z7 _);rw[<-hz]at g1;replace g2:FnC Tryz.prog 26 [.d (.fs 38 d.log),.d (.fs 38 d.log)] (.d (.bl true)):=by rw[hz];exact g2
   (repeat' (conv=>whnf);first|((with_reducible refine QKn ?_);refine QX.mid ⟨[(4,.d (.bl true))],[],7⟩ (Xs QB mixed [0,1,1,1] dkk ?_) ?_)|((with_reducible refine QKi ?_);exact Wk.en (⟨rr,trivial,rfl⟩))|with_reducible exact trivial|with_reducible refine Br.mk ?_ ?_|refine cXk g2 ?_|refine cXk g4 ?_|refine CallI.h g1 [0,1,2,3,4] ?_|refine CallI.h g3 [0,1,2,3,4] ?_|refine gOI ?_|intro x hx hu|intro h|apply sS);all_goals first|omega|rfl
  ·have hel:es.length<=100000:=by
    rw[hz,zb]at hlen;omega
   have g1:=QPR b bad d es hz (by have:=hfd.n;omega) hel hne hes;have g2:=QKV es hes hel;replace g2:FnC Tryz.prog 26 [.d (.fs 38 d.log),.d (.fs 38 d.log)] (.d (.bl true)):=by rw[hz];exact g2
   (repeat' (conv=>whnf);first|((with_reducible refine QKn ?_);refine QX.mid ⟨[(4,.d (.bl true))],[],7⟩ (Xs QB mixed [0,1,1,1] dkk ?_) ?_)|((with_reducible refine QKi ?_);exact Wk.en (⟨rr,trivial,rfl⟩))|with_reducible exact trivial|with_reducible refine Br.mk ?_ ?_|refine cXk g2 ?_|refine cXk g4 ?_|refine CallI.h g1 [0,1,2,3,4] ?_|refine CallI.h g3 [0,1,2,3,4] ?_|refine gOI ?_|intro x hx hu|intro h|apply sS);all_goals first|omega|rfl
end Go.Proofs.YtikgcbioagmkkaaGreatDoor
