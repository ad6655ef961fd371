/- Contracts of the functions that the law reaches, and the law. Conditions: none. -/
import Derived.Test.YtikgcbioagmkkaaGreatDoorPKD
import Derived.Test.YtikgcbioagmkkaaGreatDoorPKF
set_option maxRecDepth 100000
set_option linter.all false
set_option maxHeartbeats 16000000
namespace Go.Proofs.YtikgcbioagmkkaaGreatDoor
open Go.Sy
def hsA(tags:List (Int×Int))(a b:Int)(k:Nat):S:=⟨[(0,.d (.fs 2 (tags.map Qe))),(3,.ptr 0 0),(5,.d (.it .i64 (k:Nat)))],[(0,.cells 2 [.d (.it .i64 a),.d (.it .i64 b)])],1⟩
theorem QP9(tags:List (Int×Int))(a b:Int)(hl:tags.length<=1000):FnC Tryz.prog 219 [.d (.fs 2 (tags.map Qe)),.dg 2 [.it .i64 a,.it .i64 b]] (.d (.bl (decide ((a,b)∈tags)))):=by
 have htl:(tags.map Qe).length=tags.length:=zb ..;refine QJ QUu ?_;(repeat' (conv=>whnf);first|refine QA ?_|intro x hx hu|intro h|apply sS);conv=>whnf
 refine Ql QB (λk:Nat=>k<=tags.length/\(a,b)∉tags.take k) (hsA tags a b) (λk=>tags.length-k) 0 ⟨z7 _,by simp⟩ Wk.e ?_;intro k hk0;have hk:=hk0.1;have hn:=hk0.2;by_cases hkl:k<tags.length
 ·obtain ⟨⟨x,y⟩,hx⟩:=Qo hkl;have hts:∀h:¬(x=a/\y=b),(a,b)∉tags.take (k+1):=λh=>by
   rw[QW hx,yd,yr,xo];rintro(h1|h1)
   ·exact hn h1
   ·exact h ⟨h1.1.symm,h1.2.symm⟩
  have hin:x=a/\y=b->decide ((a,b)∈tags)=true:=λh=>by
   rw[<-h.1,<-h.2];exact decide_eq_true (ya hx)
  generalize decide ((a,b)∈tags)=R at*
  unfold hsA;(repeat' (conv=>whnf);first|with_reducible refine Qk hx ?_|with_reducible refine AtA.mk' ?_|refine QA ?_|intro x hx hu|intro h|apply sS);all_goals try omega
  ·skip;have h2:x=a/\y=b:=by
    simp[Yg,eqD,Qe]at h;exact h
   exact ZW (hin h2).symm
  ·skip;have h2:¬(x=a/\y=b):=by
    simp[Yg,eqD,Qe]at h;rintro⟨h3,h4⟩;exact h h3 h4
   exact⟨k+1,⟨hkl,hts h2⟩,by first|omega|(dsimp only;omega),Wk.en (⟨ai rfl (ai rfl (ai (QK om) trivial)),rr,rfl⟩)⟩
 ·have hke:tags.take k=tags:=z8 om;rw[hke]at hn;rw[decide_eq_false hn];unfold hsA;(repeat' (conv=>whnf);first|refine QA ?_|intro x hx hu|intro h|apply sS);all_goals first|omega|rfl
variable {v:AV}
theorem QAL{b:Bool}{a:AV}{K:AV->Prop}(e:a=v)(h:K v):bif b then AtA a K else K a:=by
 subst e;cases b
 ·exact h
 ·exact ⟨h⟩
def mdC(m:Wr->Bool)(ws:List Wr)(k:Nat):List AV:=(ws.take k).map (λw=>AV.d (.bl (m w)))++List.replicate (ws.length-k) (AV.d (.bl false))
theorem QQA(m:Wr->Bool)(ws:List Wr)(k:Nat)(h:k<=ws.length):(mdC m ws k).length=ws.length:=by
 unfold mdC;rw[zu,zb,zy,kf];omega
variable {m:Wr->Bool}
variable {ws:List Wr}
variable {k o j n a b N:Nat}
variable {w:Wr}
theorem QQB(h:ws[k]? =some w)(ho:o=k):(mdC m ws k).take o++[AV.d (.bl (m w))]++(mdC m ws k).drop (o+1)=mdC m ws (k+1):=by
 subst ho;obtain⟨hk,_⟩:=z6.1 h;unfold mdC;have hl:((ws.take o).map (λw=>AV.d (.bl (m w)))).length=o:=by rw[zb,zy];omega
 rw[QW h,ye,ua om,z8 om,jh,hl,qb om,xf,show o+1-o=1 by omega,jq,show ws.length-o-1=ws.length-(o+1) by omega];rfl
theorem QKr(h:ws[j]? =some w)(hj:j<k):(mdC m ws k).getD j .junk=AV.d (.bl (m w)):=by
 obtain⟨hk,he⟩:=z6.1 h;unfold mdC;rw[zr,ko (by rw[zb,zy];omega),yv,wb,if_pos hj,h];rfl
theorem QH4:∀n,(Zx n [D.bl false]).map toA=List.replicate n (AV.d (.bl false))
 |0=>rfl
 |n+1=>by
  show toA (.bl false)::(Zx n [D.bl false]).map toA=_;rw[QH4 n];rfl
variable {C:List AV}
theorem QDc(hC:C.length=n)(ho:o<n):(C.take o++[v]++C.drop (o+1)).getD o .junk=v:=by
 rw[x4,zr,um (by rw[zy];omega),zy,ud om,jx];rfl
theorem QRz{i:Nat}(h:a=b):AV.vx 32 n i a=AV.vx 32 n i b:=by rw[h]
theorem QR0(h:a=b):AV.ms 1 n 0 a a=AV.ms 1 n 0 b b:=by rw[h]
theorem Yn{D:List AV}(h:a=b)(h2:C=D):Ob.cells a C=Ob.cells b D:=by rw[h,h2]
def srB(tags:List (Int×Int))(ws:List Wr)(t:Option Int)(n:Nat)(sf:List (List D))(C:List AV)(k:Nat):S:=⟨[(1,.d (.fs 36 (ws.map QR))),(2,.d (.fs 2 (tags.map Qe))),(8,.d (.it .i64 (bst t))),(9,.d (.bl (smB t))),(11,.vx 32 0 0 n),(12,.ms 1 1 0 ws.length ws.length),(13,.d (.it .i64 (k:Nat)))],[(0,.vec 37 32 sf false),(1,.cells ws.length C)],2⟩
variable {sf:List (List D)}
theorem QEN{tags:List (Int×Int)}{t:Option Int}{q:Nat}:(srB tags ws t n sf (mdC m ws k) q).ok=true:=by
 have h:(⟨[(1,.d (.fs 36 (ws.map QR))),(2,.d (.fs 2 (tags.map Qe))),(8,.d (.it .i64 (bst t))),(9,.d (.bl (smB t))),(11,.vx 32 0 0 n),(12,.ms 1 1 0 ws.length ws.length),(13,.d (.it .i64 (q:Nat)))],[(0,.vec 37 32 sf false)],2⟩:S).ok=true:=rfl;obtain⟨h1,h2⟩:=S.ok_iff.1 h;refine S.ok_iff.2 ⟨h1,λp hp=>?_⟩;rcases zi.1 hp with rfl|hp
 ·exact h2 _ zo
 ·rw [yr.1 hp];refine⟨(by show 1<2;decide),?_⟩;show(mdC m ws k).all _=true;refine ze.2 λv hv=>?_;unfold mdC at hv;rcases yd.1 hv with hv|hv
  ·obtain ⟨x,_,rfl⟩:=yf.1 hv;rfl
  ·rw [(jv.1 hv).2];rfl
def srC(tags:List (Int×Int))(ws:List Wr)(n:Nat)(sf:List (List D))(C:List AV)(L:List (List D))(k:Nat):S:=⟨[(1,.d (.fs 36 (ws.map QR))),(11,.vx 32 0 0 n),(12,.ms 1 1 0 ws.length ws.length),(14,.ts 36 L 2),(15,.d (.it .i64 (k:Nat)))],[(0,.vec 37 32 sf false),(1,.cells ws.length C),(2,.tail 49 true)],3⟩
def srD(tags:List (Int×Int))(ws:List Wr)(n:Nat)(sf:List (List D))(C:List AV)(L:List (List D))(k:Nat)(st:Bool)(j:Nat):S:=⟨[(1,.d (.fs 36 (ws.map QR))),(11,.vx 32 0 0 n),(12,.ms 1 1 0 ws.length ws.length),(14,.ts 36 L 2),(15,.d (.it .i64 (k:Nat))),(16,.d (.bl st)),(17,.d (.it .i64 (j:Nat)))],[(0,.vec 37 32 sf false),(1,.cells ws.length C),(2,.tail 49 true)],3⟩
theorem QR1(m:Wr->Bool)(ws:List Wr)(k:Nat):(mdC m ws k).all (AV.lt1 3)=true:=by
 refine ze.2 λv hv=>?_;unfold mdC at hv;rcases yd.1 hv with hv|hv
 ·obtain ⟨x,_,rfl⟩:=yf.1 hv;rfl
 ·rw [(jv.1 hv).2];rfl
theorem QC0{sl:List (Nat×AV)}{n:Nat}(h:(⟨sl,[(0,.vec 37 32 sf false),(2,.tail 49 true)],3⟩:S).ok=true):(⟨sl,[(0,.vec 37 32 sf false),(1,.cells ws.length (mdC m ws k)),(2,.tail 49 true)],3⟩:S).ok=true:=by
 obtain⟨h1,h2⟩:=S.ok_iff.1 h;refine S.ok_iff.2 ⟨h1,λp hp=>?_⟩;rcases zi.1 hp with rfl|hp
 ·exact h2 _ zo
 ·rcases zi.1 hp with rfl|hp
  ·exact ⟨(by show 1<3;decide),QR1 m ws k⟩
  ·exact h2 _ (zk _ hp)
def QH5(m:Wr->Bool)(ws:List Wr)(w:Wr)(k j:Nat):Bool:=((ws.take j).drop (k+1)).any λv=>m v&&decide (v.a=w.a)
theorem QR2(m:Wr->Bool)(ws:List Wr)(w:Wr)(k:Nat):QH5 m ws w k (k+1)=false:=by
 unfold QH5;rw[qb (by rw[zy];omega)];rfl
theorem QR3{v:Wr}(h:ws[j]? =some v)(hj:k+1<=j):QH5 m ws w k (j+1)=(QH5 m ws w k j||(m v&&decide (v.a=w.a))):=by
 obtain⟨hl,_⟩:=z6.1 h;unfold QH5;rw[QW h,jc (by rw[zy];omega),ky,List.any_cons,List.any_nil,qd]
theorem QR4(m:Wr->Bool)(ws:List Wr)(w:Wr)(k:Nat):QH5 m ws w k ws.length=ovB m (ws.drop (k+1)) w:=by unfold QH5 ovB;rw[x7]
def stB(m:Wr->Bool)(ws:List Wr)(w:Wr)(k j:Nat):Bool:= !(m w)&& !(QH5 m ws w k j)
variable {P:Program}
variable {ops:List Oper}
variable {σ:S}
variable {K:S->Prop}
theorem QGc{ti:Nat->Option Ty}(h:QX P ti N 23 ops σ K):QX P ti N 23 ops σ K:=h
theorem QR5{h:AV->AV}(hh:∀x,h (.d x)= .d x):(mdC m ws k).map h=mdC m ws k:=by
 unfold mdC;rw[ye,kq,uq,hh];congr 1;exact jr λw _=>hh _
def srA(safe:List (List UInt8))(tags:List (Int×Int))(ws:List Wr)(k:Nat):S:=⟨[(0,.d (Q9 safe)),(1,.d (.fs 36 (ws.map QR))),(2,.d (.fs 2 (tags.map Qe))),(8,.d (.it .i64 (bst (Zi tags (ws.take k))))),(9,.d (.bl (smB (Zi tags (ws.take k))))),(10,.d (.it .i64 (k:Nat)))],[],0⟩
theorem QJV(safe:List (List UInt8))(hs:XL safe)(hs0:1<=safe.length/\safe.length<=65)(tags:List (Int×Int))(htl:tags.length<=1000)(ws:List Wr)(hw:∀w∈ws,w.s.length=32)(hr:∀w∈ws,0<=w.a/\w.a<safe.length)(hl:ws.length<=100000):
  FnC Tryz.prog 169 [.d (Q9 safe),.d (.fs 36 (ws.map QR)),.d (.fs 2 (tags.map Qe))] (.tup [.d (Q9 (QY safe (ws.filter (JB tags (Zi tags ws))))),.d (.fs 36 ((Xm (JB tags (Zi tags ws)) ws).map QR))]):=by
 have hwl:(ws.map QR).length=ws.length:=zb ..;have hsl:(safe.map QF).length=safe.length:=zb ..;have hne:(safe.map QF).isEmpty=false:=by
  cases safe with
  |nil=>simp at hs0
  |cons=>rfl
 have hH:=fun(a b:Int)=>QP9 tags a b htl;refine FnC.introW QB Tryz.func169 rfl Tryz.ntmps169 Tryz.call169 rfl (bll rfl) rfl ?_;(repeat' (conv=>whnf);first|refine QA ?_|intro x hx hu|intro h|apply sS);conv=>whnf
 refine Ql QB (λk:Nat=>k<=ws.length) (srA safe tags ws) (λk=>ws.length-k) 0 (z7 _) (Wk.en (⟨rr,trivial,rfl⟩)) ?_
 ·intro k hk;by_cases hkl:k<ws.length
  ·obtain ⟨w,hx⟩:=Qo hkl;have hws:=hw w (ya hx);have htk:Zi tags (ws.take (k+1))=QHf tags (Zi tags (ws.take k)) w:=by rw[QW hx,QFR]
   have hto:∀ {N:Nat} {σ:S} {r:Option Int},QHf tags (Zi tags (ws.take k)) w=r->Wk N σ ⟨[(0,.d (Q9 safe)),(1,.d (.fs 36 (ws.map QR))),(2,.d (.fs 2 (tags.map Qe))),(8,.d (.it .i64 (bst r))),(9,.d (.bl (smB r))),(10,.d (.it .i64 ((k+1:Nat):Int)))],[],0⟩->Wk N σ (srA safe tags ws (k+1)):=λh q=>by unfold srA;rw[htk,h];exact q
   have hS:QHf tags (Zi tags (ws.take k)) w=if tgB tags w=true then(match Zi tags (ws.take k)with|none=>some w.e|some x=>some (max x w.e))else Zi tags (ws.take k):=rfl
   have hHw:=hH w.k w.i;unfold srA;generalize Zi tags (ws.take k)=t at*
   obtain⟨wa,wS,wk,wi,we⟩:=w;obtain⟨g,rfl⟩:=ZO hws;dsimp only at hS hHw;have htg:tgB tags ⟨wa,Qv g,wk,wi,we⟩=decide ((wk,wi)∈tags):=rfl;rw[<-htg]at hHw;clear htg;generalize tgB tags ⟨wa,Qv g,wk,wi,we⟩=tg at*
   cases tg with
   |true=>
    rw[if_pos rfl]at hS;cases t with
    |none=>
     (repeat' (conv=>whnf);first|with_reducible refine Qk hx ?_|with_reducible refine AtA.mk' ?_|refine cEk hHw ?_|refine ZK.mk ⟨_,hHw,?_⟩|refine gOI ?_|intro x hx hu|intro h|apply sS);all_goals try omega
     exact⟨k+1,hkl,by first|omega|(dsimp only;omega),hto hS (Wk.en (⟨ai rfl (ai rfl (ai rfl (ai rfl (ai rfl (ai (QK om) trivial))))),trivial,rfl⟩))⟩
    |some x=>
     by_cases hxe:x<we
     ·have hm:max x we=we:=by omega
      dsimp only at hS;rw[hm]at hS;unfold bst smB;(repeat' (conv=>whnf);first|with_reducible refine Qk hx ?_|with_reducible refine AtA.mk' ?_|refine cEk hHw ?_|refine ZK.mk ⟨_,hHw,?_⟩|refine gOI ?_|intro x hx hu|intro h|apply sS);all_goals first|omega|(exfalso;dsimp only at*;omega)|skip
      exact⟨k+1,hkl,by first|omega|(dsimp only;omega),hto hS (Wk.en (⟨ai rfl (ai rfl (ai rfl (ai rfl (ai rfl (ai (QK om) trivial))))),trivial,rfl⟩))⟩
     ·have hm:max x we=x:=by omega
      dsimp only at hS;rw[hm]at hS;unfold bst smB;(repeat' (conv=>whnf);first|with_reducible refine Qk hx ?_|with_reducible refine AtA.mk' ?_|refine cEk hHw ?_|refine ZK.mk ⟨_,hHw,?_⟩|refine gOI ?_|intro x hx hu|intro h|apply sS);all_goals first|omega|(exfalso;dsimp only at*;omega)|skip
      exact⟨k+1,hkl,by first|omega|(dsimp only;omega),hto hS (Wk.en (⟨ai rfl (ai rfl (ai rfl (ai rfl (ai rfl (ai (QK om) trivial))))),trivial,rfl⟩))⟩
   |false=>
    rw[if_neg (by decide)]at hS;(repeat' (conv=>whnf);first|with_reducible refine Qk hx ?_|with_reducible refine AtA.mk' ?_|refine cEk hHw ?_|refine ZK.mk ⟨_,hHw,?_⟩|refine gOI ?_|intro x hx hu|intro h|apply sS);all_goals try omega
    exact⟨k+1,hkl,by first|omega|(dsimp only;omega),hto hS (Wk.en (⟨ai rfl (ai rfl (ai rfl (ai rfl (ai rfl (ai (QK om) trivial))))),trivial,rfl⟩))⟩
  ·have hke:ws.take k=ws:=z8 om;unfold srA;rw[hke];generalize Zi tags ws=t at*
   have hmE:∀w:Wr,JB tags t w=(decide ((w.k,w.i)∈tags)||match t with|none=>false|some x=>decide (w.e<x)):=λw=>rfl;generalize JB tags t=m at*
   (repeat' (conv=>whnf);first|refine JD.vec (ai rfl ?_)|refine JD.vec ?_|with_reducible refine Spl.no hne ?_|refine QA ?_|intro x hx hu|intro h|apply sS);all_goals try omega
   conv=>whnf
   refine Ql QB (λk:Nat=>k<=ws.length) (λk=>srB tags ws t safe.length ((QY safe ((ws.take k).filter m)).map QF) (mdC m ws k) k) (λk=>ws.length-k) 0 (z7 _) (Wk.en (⟨ai rfl (ai rfl (ai rfl (ai rfl (ai (QRz hsl) (ai (QR0 (by rw[hwl];exact kj _)) rr))))),ai rfl (ai (Yn (by show((ws.map QR).length:Int).toNat*1=ws.length;rw[hwl];omega) (by rw[hwl];exact QH4 _)) trivial),QEN⟩)) ?_
   ·intro k hk;by_cases hkl:k<ws.length
    ·obtain ⟨w,hx⟩:=Qo hkl;have hws:=hw w (ya hx);have hwr:=hr w (ya hx);have hHw:=hH w.k w.i;have hmw:=hmE w;have hCl:=QQA m ws k hk;have hput:=fun{o:Nat} (h:o=k)=>QQB (m:=m) hx h;have hf:(ws.take (k+1)).filter m=(ws.take k).filter m++if m w=true then [w]else []:=by
      rw[QW hx,vr];congr 1;cases hmw:m w<;>simp[hmw]
     have hpl:(QY safe ((ws.take k).filter m)).length=safe.length:=Z2 _ _;have hto:∀ {N:Nat} {σ:S} {sf:List (List D)},(QY safe ((ws.take (k+1)).filter m)).map QF=sf->Wk N σ (srB tags ws t safe.length sf (mdC m ws (k+1)) (k+1))->Wk N σ (srB tags ws t safe.length ((QY safe ((ws.take (k+1)).filter m)).map QF) (mdC m ws (k+1)) (k+1)):=λh1 q=>by rw[h1];exact q
     generalize (ws.take k).filter m=ft at*
     generalize mdC m ws k=C0 at*
     obtain⟨wa,wS,wk,wi,we⟩:=w;obtain⟨g,rfl⟩:=ZO hws;dsimp only at hHw hmw hwr;generalize decide ((wk,wi)∈tags)=tg at*
     cases tg with
     |true=>
      rw[Vi]at hmw;rw[hmw]at hput;rw[if_pos hmw]at hf;have h1:(QY safe ((ws.take (k+1)).filter m)).map QF=((QY safe ft).map QF).take (0+wa.toNat)++[QF (Qv g)]++((QY safe ft).map QF).drop (0+wa.toNat+1):=by rw[y5,hf,QEF];exact(QEE (m:=QY safe ft) (w:=⟨wa,Qv g,wk,wi,we⟩) (by rw[hpl];exact hwr)).symm
      have hsl2:((QY safe ft).map QF).length=safe.length:=by rw[zb,hpl]
      generalize (QY safe ft).map QF=sf at*
      unfold srB;(repeat' (conv=>whnf);first|with_reducible refine Qk hx ?_|with_reducible refine AtA.mk' ?_|refine cEk hHw ?_|refine ZK.mk ⟨_,hHw,?_⟩|refine QAL (QDc hCl (by show 0+((k:Nat):Int).toNat*1<ws.length;omega)) ?_|refine gOI ?_|intro x hx hu|intro h|apply sS);all_goals try omega
      exact⟨k+1,hkl,by first|omega|(dsimp only;omega),hto h1 (Wk.en (⟨ai rfl (ai rfl (ai rfl (ai rfl (ai rfl (ai rfl (ai (QK om) trivial)))))),ai rfl (ai (Yn rfl (hput (by show 0+((k:Nat):Int).toNat*1=k;omega))) trivial),QEN⟩))⟩
     |false=>
      rw[ul]at hmw;cases t with
      |none=>
       dsimp only at hmw;rw[hmw]at hput;rw[if_neg (by rw[hmw];decide),y4]at hf;have h1:(QY safe ((ws.take (k+1)).filter m)).map QF=(QY safe ft).map QF:=by rw[hf]
       generalize (QY safe ft).map QF=sf at*
       unfold srB;(repeat' (conv=>whnf);first|with_reducible refine Qk hx ?_|with_reducible refine AtA.mk' ?_|refine cEk hHw ?_|refine ZK.mk ⟨_,hHw,?_⟩|refine QAL (QDc hCl (by show 0+((k:Nat):Int).toNat*1<ws.length;omega)) ?_|refine gOI ?_|intro x hx hu|intro h|apply sS);all_goals try omega
       exact⟨k+1,hkl,by first|omega|(dsimp only;omega),hto h1 (Wk.en (⟨ai rfl (ai rfl (ai rfl (ai rfl (ai rfl (ai rfl (ai (QK om) trivial)))))),ai rfl (ai (Yn rfl (hput (by show 0+((k:Nat):Int).toNat*1=k;omega))) trivial),QEN⟩))⟩
      |some x=>
       dsimp only at hmw;by_cases hxe:we<x
       ·rw [decide_eq_true hxe]at hmw;rw[hmw]at hput;rw[if_pos hmw]at hf;have h1:(QY safe ((ws.take (k+1)).filter m)).map QF=((QY safe ft).map QF).take (0+wa.toNat)++[QF (Qv g)]++((QY safe ft).map QF).drop (0+wa.toNat+1):=by rw[y5,hf,QEF];exact(QEE (m:=QY safe ft) (w:=⟨wa,Qv g,wk,wi,we⟩) (by rw[hpl];exact hwr)).symm
        have hsl2:((QY safe ft).map QF).length=safe.length:=by rw[zb,hpl]
        generalize (QY safe ft).map QF=sf at*
        unfold srB bst smB;have hdc:decide (we<x)=true:=decide_eq_true hxe;(repeat' (conv=>whnf);first|with_reducible refine Qk hx ?_|with_reducible refine AtA.mk' ?_|refine cEk hHw ?_|refine ZK.mk ⟨_,hHw,?_⟩|refine QAL (QDc hCl (by show 0+((k:Nat):Int).toNat*1<ws.length;omega)) ?_|refine gOI ?_|intro x hx hu|intro h|apply sS);all_goals first|omega|(exfalso;dsimp only at*;omega)|skip
        exact⟨k+1,hkl,by first|omega|(dsimp only;omega),hto h1 (Wk.en (⟨ai rfl (ai rfl (ai rfl (ai rfl (ai rfl (ai rfl (ai (QK om) trivial)))))),ai rfl (ai (Yn rfl (W9 (by rw[decide_eq_true hxe]) (hput (by show 0+((k:Nat):Int).toNat*1=k;omega)))) trivial),QEN⟩))⟩
       ·rw [decide_eq_false hxe]at hmw;rw[hmw]at hput;rw[if_neg (by rw[hmw];decide),y4]at hf;have h1:(QY safe ((ws.take (k+1)).filter m)).map QF=(QY safe ft).map QF:=by rw[hf]
        generalize (QY safe ft).map QF=sf at*
        unfold srB bst smB;(repeat' (conv=>whnf);first|with_reducible refine Qk hx ?_|with_reducible refine AtA.mk' ?_|refine cEk hHw ?_|refine ZK.mk ⟨_,hHw,?_⟩|refine QAL (QDc hCl (by show 0+((k:Nat):Int).toNat*1<ws.length;omega)) ?_|refine gOI ?_|intro x hx hu|intro h|apply sS);all_goals first|omega|(exfalso;dsimp only at*;omega)|skip
        exact⟨k+1,hkl,by first|omega|(dsimp only;omega),hto h1 (Wk.en (⟨ai rfl (ai rfl (ai rfl (ai rfl (ai rfl (ai rfl (ai (QK om) trivial)))))),ai rfl (ai (Yn rfl (W9 (by rw[decide_eq_false hxe]) (hput (by show 0+((k:Nat):Int).toNat*1=k;omega)))) trivial),QEN⟩))⟩
    ·have hke:k=ws.length:=by omega
     subst hke;rw[x7];have hall:=QD4 m ws;have hsfl:((QY safe (ws.filter m)).map QF).length=safe.length:=by rw[zb];exact Z2 _ _
     rw[show Q9 (QY safe (ws.filter m))=D.fs 32 ((QY safe (ws.filter m)).map QF)from rfl];generalize (QY safe (ws.filter m)).map QF=sf at*
     unfold srB;(repeat' (conv=>whnf);first|refine QA ?_|intro x hx hu|intro h|apply sS);all_goals try omega
     conv=>whnf
     refine Ql QB (λk:Nat=>k<=ws.length) (λk=>srC tags ws safe.length sf (mdC m ws ws.length) ((Yv m ws k).map QR) k) (λk=>ws.length-k) 0 (z7 _) (Wk.en (⟨rr,rr,QC0 (n:=0) rfl⟩)) ?_;intro k hk2;by_cases hkl2:k<ws.length
     ·obtain ⟨w,hx⟩:=Qo hkl2;have hget:=fun{o:Nat} (ho:o=k)=>(show(mdC m ws ws.length).getD o .junk=AV.d (.bl (m w)) by rw[ho];exact QKr hx hkl2);have hws:=hw w (ya hx);unfold srC;(repeat' (conv=>whnf);first|with_reducible refine Qk hx ?_|with_reducible refine AtA.mk' ?_|refine QAL (hget (by show 0+((k:Nat):Int).toNat*1=k;omega)) ?_|refine QA ?_|intro x hx hu|intro h|apply sS);all_goals try omega
      conv=>whnf
      refine Ql QB (λj:Nat=>k+1<=j/\j<=ws.length) (λj=>srD tags ws safe.length sf (mdC m ws ws.length) ((Yv m ws k).map QR) k (stB m ws w k j) j) (λj=>ws.length-j) (k+1) ⟨zt _,hkl2⟩ (Wk.en (⟨ai rfl (ai rfl (ai rfl (ai rfl (ai rfl (ai (QNF (by unfold stB;rw[QR2,u4,wh])) (ai (QK om) trivial)))))),rr,QC0 (n:=0) rfl⟩)) ?_;intro j hj0;have hj:=hj0.1;have hj2:=hj0.2;by_cases hjl:j<ws.length
      ·obtain ⟨v,hy⟩:=Qo hjl;have hgv:=fun{o:Nat} (ho:o=j)=>(show(mdC m ws ws.length).getD o .junk=AV.d (.bl (m v)) by rw[ho];exact QKr hy hjl);have hst:stB m ws w k (j+1)=(stB m ws w k j&& !(m v&&decide (v.a=w.a))):=by
        unfold stB;rw[QR3 hy hj,Bool.not_or,W5]
       have hto:∀ {N:Nat} {σ:S} {st:Bool},stB m ws w k (j+1)=st->Wk N σ (srD tags ws safe.length sf (mdC m ws ws.length) ((Yv m ws k).map QR) k st (j+1))->Wk N σ (srD tags ws safe.length sf (mdC m ws ws.length) ((Yv m ws k).map QR) k (stB m ws w k (j+1)) (j+1)):=λh q=>by rw[h];exact q
       generalize stB m ws w k j=st at*
       have hvs:=hw v (ya hy);unfold srD;obtain⟨wa,wS,wk,wi,we⟩:=w;obtain⟨va,vS,vk,vi,ve⟩:=v;generalize m ⟨va,vS,vk,vi,ve⟩=mv at*
       dsimp only at hst;cases mv with
       |true=>
        rw[wz]at hst;by_cases hva:va=wa
        ·rw [decide_eq_true hva,vw,Bool.and_false]at hst;(repeat' (conv=>whnf);first|with_reducible refine Qk hy ?_|with_reducible refine Qk hx ?_|with_reducible refine AtA.mk' ?_|((with_reducible refine QGc ?_);refine X9 QB mixed dkk ?_)|refine QAL (hgv (by show 0+((j:Nat):Int).toNat*1=j;omega)) ?_|refine QA ?_|intro x hx hu|intro h|apply sS);all_goals first|omega|(exfalso;dsimp only at*;omega)|skip
         exact⟨j+1,⟨by omega,hjl⟩,by first|omega|(dsimp only;omega),hto hst (Wk.en (⟨ai rfl (ai rfl (ai rfl (ai rfl (ai rfl (ai rfl (ai (QK om) trivial)))))),rr,QC0 (n:=0) rfl⟩))⟩
        ·rw [decide_eq_false hva,u4,wh]at hst;(repeat' (conv=>whnf);first|with_reducible refine Qk hy ?_|with_reducible refine Qk hx ?_|with_reducible refine AtA.mk' ?_|((with_reducible refine QGc ?_);refine X9 QB mixed dkk ?_)|refine QAL (hgv (by show 0+((j:Nat):Int).toNat*1=j;omega)) ?_|refine QA ?_|intro x hx hu|intro h|apply sS);all_goals first|omega|(exfalso;dsimp only at*;omega)|skip
         exact⟨j+1,⟨by omega,hjl⟩,by first|omega|(dsimp only;omega),hto hst (Wk.en (⟨ai rfl (ai rfl (ai rfl (ai rfl (ai rfl (ai rfl (ai (QK om) trivial)))))),rr,QC0 (n:=0) rfl⟩))⟩
       |false=>
        rw[Bool.false_and,u4,wh]at hst;(repeat' (conv=>whnf);first|with_reducible refine Qk hy ?_|with_reducible refine Qk hx ?_|with_reducible refine AtA.mk' ?_|((with_reducible refine QGc ?_);refine X9 QB mixed dkk ?_)|refine QAL (hgv (by show 0+((j:Nat):Int).toNat*1=j;omega)) ?_|refine QA ?_|intro x hx hu|intro h|apply sS);all_goals first|omega|(exfalso;dsimp only at*;omega)|skip
        exact⟨j+1,⟨by omega,hjl⟩,by first|omega|(dsimp only;omega),hto hst (Wk.en (⟨ai rfl (ai rfl (ai rfl (ai rfl (ai rfl (ai rfl (ai (QK om) trivial)))))),rr,QC0 (n:=0) rfl⟩))⟩
      ·have hje:j=ws.length:=by omega
       subst hje;have hstE:stB m ws w k ws.length=(!(m w)&& !(ovB m (ws.drop (k+1)) w)):=by unfold stB;rw[QR4]
       have hsu:=QFQ (m:=m) hx;have hln:=QHi m ws k;have hto:∀ {N:Nat} {σ:S} {L:List (List D)},(Yv m ws (k+1)).map QR=L->Wk N σ (srC tags ws safe.length sf (mdC m ws ws.length) L (k+1))->Wk N σ (srC tags ws safe.length sf (mdC m ws ws.length) ((Yv m ws (k+1)).map QR) (k+1)):=λh q=>by rw[h];exact q
       generalize Yv m ws k=lf at*
       have hlf:(lf.map QR).length=lf.length:=zb ..;generalize stB m ws w k ws.length=st at*
       unfold srD;cases hmw:m w with
       |true=>
        rw[hmw,vw,Bool.false_and]at hstE;subst hstE;have h1:(Yv m ws (k+1)).map QR=lf.map QR:=by rw[hsu,if_pos (.inl hmw),y4]
        obtain⟨wa,wS,wk,wi,we⟩:=w;obtain⟨g,rfl⟩:=ZO hws;(repeat' (conv=>whnf);first|with_reducible refine Qk hx ?_|with_reducible refine AtA.mk' ?_|refine QA ?_|intro x hx hu|intro h|apply sS);all_goals try omega
        exact⟨k+1,hkl2,by first|omega|(dsimp only;omega),hto h1 (Wk.en (⟨ai rfl (ai rfl (ai rfl (ai rfl (ai (QK om) trivial)))),rr,QC0 (n:=0) rfl⟩))⟩
       |false=>
        rw[hmw,u4,wz]at hstE;cases hov:ovB m (ws.drop (k+1)) w with
        |true=>
         rw[hov,vw]at hstE;subst hstE;have h1:(Yv m ws (k+1)).map QR=lf.map QR:=by rw[hsu,if_pos (.inr hov),y4]
         obtain⟨wa,wS,wk,wi,we⟩:=w;obtain⟨g,rfl⟩:=ZO hws;(repeat' (conv=>whnf);first|with_reducible refine Qk hx ?_|with_reducible refine AtA.mk' ?_|refine QA ?_|intro x hx hu|intro h|apply sS);all_goals try omega
         exact⟨k+1,hkl2,by first|omega|(dsimp only;omega),hto h1 (Wk.en (⟨ai rfl (ai rfl (ai rfl (ai rfl (ai (QK om) trivial)))),rr,QC0 (n:=0) rfl⟩))⟩
        |false=>
         rw[hov,u4]at hstE;subst hstE;have h1:(Yv m ws (k+1)).map QR=lf.map QR++[QR w]:=by rw[hsu,if_neg (by rw[hmw,hov];decide),ye];rfl
         obtain⟨wa,wS,wk,wi,we⟩:=w;obtain⟨g,rfl⟩:=ZO hws;(repeat' (conv=>whnf);first|with_reducible refine Qk hx ?_|with_reducible refine AtA.mk' ?_|refine QA ?_|intro x hx hu|intro h|apply sS);all_goals try omega
         exact⟨k+1,hkl2,by first|omega|(dsimp only;omega),hto h1 (Wk.en (⟨ai rfl (ai rfl (ai rfl (ai rfl (ai (QK om) trivial)))),ai rfl (ai (Yn rfl (QR5 (λx=>rfl))) rr),QC0 (n:=0) rfl⟩))⟩
     ·have hke2:k=ws.length:=by omega
      subst hke2;rw[hall];unfold srC;(repeat' (conv=>whnf);first|refine QA ?_|intro x hx hu|intro h|apply sS);all_goals try omega
      conv=>whnf
      exact⟨⟨[(6,.d (.fs 32 sf)),(7,.d (.fs 36 ((Xm m ws).map QR)))],[],3⟩,Wk.frzL 0 37 32 sf false wu (ai (Fz.vx 0 safe.length _ (by rw[hsfl];omega) (by rw[vl,z8 (by rw[hsfl];exact zt _)])) (ai (Fz.ts 36 _ 2) trivial)) trivial rfl,rfl⟩
theorem QR6{ti:Nat->Option Ty}(h:QX P ti N 3 ops σ K):QX P ti N 3 ops σ K:=h
theorem QN1{bad:List Int}{d:Dk}(h:Fd bad d N)(tags:List (Int×Int))(hne:tags≠[])(htl:tags.length<=1000):
  FnH Tryz.prog 118 [.ptr 0 0,.d (.fs 2 (tags.map Qe))] (Qp bad d) 1 [0] (.d (.it .i64 (if d.nx∈bad then 3 else 0))) (Qp bad (if d.nx∈bad then tk d else QBq tags d)) 1:=by
 have hbl:=h.bl;have hN:=h.hN;have hnx:=h.b.nx;have hlg:=h.b.l;have hwl:=h.b.w;have hin:FnC Tryz.prog 170 [.d (.fs 1 (vI bad)),.d (.it .i64 (d.nx+1-1))] (.d (.bl (decide (d.nx∈bad)))):=by
  have:=QBp bad (d.nx+1-1) hbl
  rwa [show decide (d.nx+1-1∈bad)=decide (d.nx∈bad) by rw[jw]]at this
 have hS:=QJV d.safe h.s ⟨by have:=h.n;omega,by have:=h.n;omega⟩ tags htl d.wait h.w h.r om;have hl2:(tags.map Qe).length=tags.length:=zb ..;by_cases hb:d.nx∈bad
 ·rw [decide_eq_true hb]at hin;rw[if_pos hb,if_pos hb];refine QL QSn λT=>?_;(repeat' (conv=>whnf);first|refine cEk hin ?_|refine cI QIz ?_|refine gOI ?_|intro x hx hu|intro h|apply sS);all_goals try omega
  all_goals exact QH
 ·rw [decide_eq_false hb]at hin;rw[if_neg hb,if_neg hb];have hSy:QBq tags d=⟨d.nx+1,QY d.safe (d.wait.filter (JB tags (Zi tags d.wait))),Xm (JB tags (Zi tags d.wait)) d.wait,d.log++[evS tags],d.ep⟩:=rfl;rw[hSy];generalize QY d.safe (d.wait.filter (JB tags (Zi tags d.wait)))=sf at*
  generalize Xm (JB tags (Zi tags d.wait)) d.wait=lw at*
  refine QL QSn λT=>?_;(repeat' (conv=>whnf);first|((with_reducible refine QR6 ?_);first|refine X9 QB mixed dkk ?_|refine Xs QB mixed [0,0,0,0,0,1,1,1,2] dkk ?_)|with_reducible refine Br.mk ?_ ?_|with_reducible exact trivial|refine cXk hin ?_|refine cXk hS ?_|refine cI QIz ?_|refine gOI ?_|intro x hx hu|intro h|apply sS);all_goals try omega
  all_goals (
   conv=>whnf
   exact⟨⟨[(4,.d (.it .i64 0))],Qp bad ⟨d.nx+1,sf,lw,d.log++[evS tags],d.ep⟩++Qr 1 [0] T,30⟩,Wk.vwL (ai (Vw.eq rfl) trivial) (ai (VwO.cells _ _ _ (.cons (Vw.eq rfl) rfl (.cons (Vw.eq rfl) rfl (.cons (Vw.eq rfl) rfl (.cons (Vw.ts' rfl) rfl (.cons (Vw.eq rfl) rfl (.cons (Vw.eq rfl) rfl .nil))))))) (ai (VwO.same _) (ai (VwO.same _) trivial))) rfl,rfl,rr,rr⟩)
end Go.Proofs.YtikgcbioagmkkaaGreatDoor
