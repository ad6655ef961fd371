/- A computing verification layer for data, proved sound over the library: what a body comes to, by its literal code. Conditions: none. -/
import Derived.Test.YtikgcbioagmkkaaGreatDoorCSD
import Derived.Test.YtikgcbioagmkkaaGreatDoorCSC
set_option maxRecDepth 100000
set_option linter.all false
namespace Go.Sy
variable {Q:Exit->Act->World->Prop}
variable {i d m n f t ke ee:Nat}
variable {o:Oper}
variable {v:Value}
variable {a:Act}
variable {w:World}
variable {ops:List Oper}
variable {σ τ:S}
variable {K:S->Prop}
section
variable {P:Program} {ti:Nat->Option Ty} {N:Nat} {F:Fence} {n:Nat}
theorem QCl{ops:Array Oper}(hi:ops[i]? =some o)(hd:∀c,o.op≠ .defer c)(hb:∀w ev,o.about P w ev=none)(hg:o.guard=none){K:Act->World->Prop}(hv:YV P o v a)(h:K (a.put o.dst v) w):wpOpIn F n P ops Q i K a w:=by
 unfold Go.wpOpIn;simp only[hi];rw[if_pos (Zy hg)];refine⟨λf hf=>?_,?_⟩
 ·rw [hb]at hf;cases hf
 ·rw [uv _ _ _ hd,hv w];exact h
theorem QGV{ops:Array Oper}{md:Region.Mode}{oi:Oper}(hi:ops[i]? =some oi)(hs:∀cs b,oi.op≠ .select cs b)(hd:∀c,oi.op≠ .defer c)(hb:∀w ev,oi.about P w ev=none)(hg:oi.guard=none)
  (hsel:∀(j:Nat) (o:Oper),ops[j]? =some o->(∀cs b,o.op≠ .select cs b)/\∀c,o.op≠ .defer c) (hQ:∀c a w,¬Q (.panic c) a w):
  ∀(fuel:Nat) (listed:Array Bool) (a:Act) (w:World),YV P oi v a->
   (∀j oj,ops[j]? =some oj->j≠i->listed.getD j true=false->(∀e∈oj.after,Region.binds md e=true->e.on≠i)->oi.apart ops oj=true)->
   i∈Region.ready md ops listed->
   wpAnyIn F n P md ops Q fuel (listed.setIfInBounds i true) (a.put oi.dst v) w->wpAnyIn F n P md ops Q (fuel+1) listed a w:=by
 intro fuel;induction fuel with
 |zero=>
  intro listed a w hv _ hr H;refine⟨λh=>(by rw[h]at hr;cases hr),λj hj=>?_⟩;by_cases hji:j=i
  ·subst hji;exact QCl hi hd hb hg hv H
  ·have:=ready_mono hj hji;rw[H.1]at this;cases this
 |succ fuel ih=>
  intro listed a w hv hfree hr H;refine⟨λh=>(by rw[h]at hr;cases hr),λj hj=>?_⟩;by_cases hji:j=i
  ·subst hji;exact QCl hi hd hb hg hv H
  ·have h1:=H.2 j (ready_mono hj hji);obtain⟨hjun,oj,hoj,hall⟩:=mem_ready.1 hj;have hnot:∀e∈oj.after,Region.binds md e=true->e.on≠i:=λe he hb heq=>by
    have h1:=hall e he hb;have h0:=(mem_ready.1 hr).1;rw[heq]at h1;rcases yr i listed.size with h'|h'
    ·simp [h']at h0 h1;rw[h0]at h1;cases h1
    ·simp [xb h']at h1
   have h2:=QCk hoj hs (hfree j oj hoj hji hjun hnot) (hsel j oj hoj).1 (hsel j oj hoj).2 hQ hv h1;have hfree':∀k ok,ops[k]? =some ok->k≠i->(listed.setIfInBounds j true).getD k true=false->
     (∀e∈ok.after,Region.binds md e=true->e.on≠i)->oi.apart ops ok=true:=λk ok hk hki hun hno=>by
    refine hfree k ok hk hki ?_ hno;by_cases hjk:j=k
    ·subst hjk;exact hjun
    ·rw [getD_set_ne true hjk]at hun;exact hun
   refine wpOpIn_mono (λa' w' ⟨h3,hv'⟩=>ih (listed.setIfInBounds j true) a' w' hv' hfree' (ready_mono hr (vf hji)) ?_) h2;rw[jt _ _ hji];exact h3
def QTc:Op->Bool
 | .binOp .add .. | .binOp .sub .. =>true
 | .call c=>match c.callee with
  | .builtin .len=>true
  |_=>false
 |o=>QR5 o
def QAd(N:Nat)(ops:List Oper)(h:Nat):Bool:=
 match ops[h]? with
 |some o=>QTc o.op&&(match o.guard with|none=>true|some _=>false)&&(match o.dst with|some d=>Nat.blt d N|none=>false)&&o.after.toList.all (λe=> !Region.binds .any e)&&ops.all (λo=>QJQ o.op&&QAo h o)&&
   Region.free .any ops.toArray (Array.replicate ops.length false) h
 |none=>false
theorem Q7.hoistM{h:Nat}{v:AV}(ho:ops[h]? =some o)(hg:o.guard=none)(b3:(match o.dst with|some d=>Nat.blt d N|none=>false)=true)
  (b4:(o.after.toList.all (λe=> !Region.binds .any e))=true) (b5:(ops.all (λo=>QJQ o.op&&QAo h o))=true) (b6:Region.free .any ops.toArray (Array.replicate ops.length false) h=true)
  (hn1:∀cs b,o.op≠ .select cs b) (hn2:∀c,o.op≠ .defer c) (hab:∀w ev,o.about P w ev=none)
  (hd:o.dst=some d) (hlt:σ.ok=true->v.lt σ.nx=true) (hY:∀κ g a w,St κ N g σ a w->∃u,YV P o u a/\AVR g v u) (hK:Q7 P ti N (Qi h h ops) ⟨(d,v)::σ.sl,σ.mem,σ.nx⟩ K):Q7 P ti N ops σ K:=by
 have hdN:d<N:=by rw[hd]at b3;simpa using b3
 have hhl:h<ops.length:=(yb.1 ho).1;have ho':ops.toArray[h]? =some o:=by simpa using ho
 have hall:∀(j:Nat) (o':Oper),ops[j]? =some o'->QJQ o'.op=true/\QAo h o'=true:=λj o' hj=>by
  have:=zb.1 b5 o' (yw hj);simpa using this
 refine⟨λκ g a w hst Q hQ hP=>?_⟩;obtain⟨u,hyv,hav⟩:=hY κ g a w hst;have hst1:St κ N g ⟨(d,v)::σ.sl,σ.mem,σ.nx⟩ (a.put o.dst u) w:=by
  rw[hd];exact hst.put hdN (.refl _ _) hst.inv hav (S.ok_cons hst.ok (zr _) (hlt hst.ok) (S.ok_memAll hst.ok))
 have h1:=hK.run κ g _ w hst1 Q hQ hP;have hdl:=QC9 (h:=h) h ops hhl;obtain⟨m,hm⟩:∃m,ops.length=m+1:=⟨ops.length-1,by omega⟩;have hdm:(Qi h h ops).length=m:=by omega
 rw[hdm]at h1;rw[hm];refine QGV ho' hn1 hn2 hab hg (λj o' hj=>?_) hP m _ a w hyv ?_ ?_ ?_
 ·have:=(hall j o' (by simpa using hj)).1;refine⟨λcs b hq=>?_,λc hq=>?_⟩<;>rw[hq]at this<;>cases this
 ·intro j oj hj hne hun hno;have:=Wl ho' b6 j oj hj hne (by rw[hm];exact hun) hno;exact this
 ·refine mem_ready.2 ⟨by simp[Array.getD];omega,o,ho',λe he hb=>?_⟩;have:=zb.1 b4 e (by simpa using he);rw[hb]at this;cases this
 ·refine QGO (h:=h) (λj o' hj i c hgc hih=>?_) m _ _ _ w ?_ ?_ ?_ h1
  ·have:=(hall j o' hj).2;unfold QAo at this;rw[hgc]at this;simp only[hih,x7,uc]at this;cases this
  ·intro i b;rw[getD_set_ne b (vf (QOL h i))];by_cases hi:i<m
   ·have:up h i<m+1:=by
     unfold up;by_cases hih:i<h
     ·rw [ZO hih,cond_true];omega
     ·rw [XA hih,cond_false];omega
    simp[Array.getD,hi,this]
   ·have:¬up h i<m+1:=by
     unfold up;by_cases hih:i<h
     ·rw [ZO hih,cond_true];omega
     ·rw [XA hih,cond_false];omega
    simp[Array.getD,hi,this]
  ·exact QT true (by simp;omega)
  ·exact QT false (by simp;omega)
def X9(P:Program)(ti:Nat->Option Ty)(ops:List Oper)(h:Nat)(σ:S)(K':S->Prop):Prop:=
 match ops[h]? with
 |some o=>match o.op with
  | .binOp op t x y _=>match o.dst,ρ σ.sl x,ρ σ.sl y with
   |some d,some (.d (.it .i64 a)),some (.d (.it .i64 b))=>QEP op .i64 a b λz=>K' ⟨(d,.d z)::σ.sl,σ.mem,σ.nx⟩
   |_,_,_=>False
  | .call c=>match c.callee,c.args.toList,o.dst,(c.argTypes[0]?).bind ti with
   | .builtin .len,[x],some d,some ⟨.slice e,_,_,_,_,_⟩=>match (ρ σ.sl x).bind Zq with
    |some (_,es)=>K' ⟨(d,.d (.it .i64 (es.length:Nat)))::σ.sl,σ.mem,σ.nx⟩
    |none=>False
   |_,_,_,_=>False
  |_=>Yb P ti ops h σ K'
 |none=>False
theorem Q7.new(hti:QN P ti)(h m:Nat)(hK:QJY P ti N ops h m σ K):Q7 P ti N ops σ K:=by
 unfold QJY at hK;split at hK
 case h_2=>exact hK.elim
 rename_i oh hoh;split at hK
 case h_2=>exact hK.elim
 rename_i e d hop hd;split at hK
 case h_2=>exact hK.elim
 rename_i ty hty;obtain⟨hb,hK⟩:=QS hK;simp only[zf]at hb;obtain⟨hb,hb1,hb2⟩:=hb;unfold QP0 at hb;split at hb
 case h_2=>cases hb
 rename_i ms d' hms hd' hg;have hdd:d'=d:=by rw[hd]at hd';exact(za hd').symm
 subst hdd;simp only[zf]at hb;obtain⟨⟨⟨⟨c1,c2⟩,c3⟩,c4⟩,c5⟩:=hb;have hml:=yf c2;have hhm:h<m:=by simpa using c1
 refine⟨λκ g a w hst Q hQ _=>?_⟩;obtain⟨vs,σ',htail,hok',hmem,hnx,hch⟩:=YN hti _ σ hst.ok hK;rw[hmem,hnx]at htail;have key:wpAnyIn (wd κ.rd) 0 P .any ops.toArray Q ops.length (Array.replicate ops.length false) a w:=by
  have:=QKm (Q:=Q) hti hoh hop hg hd hty (zh hb1) (by simpa using hb2) hhm (λo ho=>by
    unfold QR0 at c5;rw[zb]at c5;have:=c5 o ho;rw[wv]at this;intro hmem';rw[Qr.2 hmem']at this;cases this) hms hml (λi' h1 h2=>YP c4 i' h1 (by omega)) c3 hst.ok hok' hmem hnx hch hQ htail m (List.range m) (Array.replicate ops.length false) g a w
   yy j7 (λk=>by
    rw[yj];refine⟨λhk=>⟨hk,by simp[Array.getD,show k<ops.length by omega]⟩,λhk=>hk.1⟩) (by simp) (λk _ hk=>by simp[Array.getD,hk]) (λk o _ hk=>by simp[Array.getD]at hk)
   (by
    have hf:(Array.replicate ops.length false).getD h false=false:=by simp[Array.getD]
    rw[hf];exact⟨hst.size,hst.defers,hst.inv,(λhl=>by cases hl),λi d _ hi=>by simp[Array.getD]at hi,λk v hk _=>hst.sl k v hk⟩)
  rw[show m+(ops.length-m)=ops.length by omega]at this;exact this
 exact key
theorem QEP.mono{op:BinOp}{k:IntKind}{a b:Int}{A B:D->Prop}(hab:∀z,A z->B z)(h:QEP op k a b A):QEP op k a b B:=by
 cases op<;>simp only[QEP]at h⊢;all_goals first|exact hab _ h|exact⟨hab _ h.run⟩|exact⟨h.1,⟨hab _ h.2.run⟩⟩
theorem X9.mono{h:Nat}{A B:S->Prop}(hab:∀σ,A σ->B σ)(hk:X9 P ti ops h σ A):X9 P ti ops h σ B:=by
 unfold X9 at hk⊢;split at hk
 ·split at hk
  ·split at hk
   ·exact QEP.mono (λz=>hab _) hk
   ·exact hk.elim
  ·split at hk
   ·split at hk
    ·exact hab _ hk
    ·exact hk.elim
   ·exact hk.elim
  ·exact Yb.mono hab hk
 ·exact hk.elim
theorem Q7.hoistW(hti:QN P ti)(h:Nat)(hB:QAd N ops h=true)(hK:X9 P ti ops h σ λσ'=>Q7 P ti N (Qi h h ops) σ' K):Q7 P ti N ops σ K:=by
 cases ho:ops[h]? with
 |none=>unfold QAd at hB;rw[ho]at hB;cases hB
 |some o=>
 have hB':=hB;unfold QAd at hB;unfold X9 at hK;rw[ho]at hB hK;simp only[zf]at hB;obtain⟨⟨⟨⟨⟨b1,b2⟩,b3⟩,b4⟩,b5⟩,b6⟩:=hB;have hg:o.guard=none:=by
  cases hq:o.guard with
  |none=>rfl
  |some _=>rw[hq]at b2;cases b2
 simp only at hK;split at hK
 ·rename_i op t x y t' hop;split at hK
  ·rename_i d a b hd hx hy;have hpl:op≠ .shl/\op≠ .shr:=by
    rw[hop]at b1;refine⟨λq=>?_,λq=>?_⟩<;>(subst q;cases b1)
   obtain⟨z,w,hKz,hD,hr⟩:=QC6 (P:=P) hK;refine .hoistM (v:= .d z) ho hg b3 b4 b5 b6 (λcs b hq=>by rw[hop]at hq;cases hq) (λc hq=>by rw[hop]at hq;cases hq) (λw ev=>by unfold Oper.about;rw[hop]) hd (λ_=>rfl) (λκ g A W hst=>?_) hKz;refine⟨w,λW'=>?_,.d _ _ (hD _)⟩;have h1:=Qw (ρ_ok hst.sl hx);have h2:=Qw (ρ_ok hst.sl hy);simp only[execOp,hop,h1,h2,zp,Xf op t x y _ _ (.inl ⟨_,_,rfl⟩),zg,hr t .i64 (.inl rfl) W',zq]
  ·exact hK.elim
 ·rename_i c hop;split at hK
  ·rename_i x d e _ _ _ _ _ hc ha hd ht;split at hK
   ·rename_i sz es hs;obtain⟨v,hx,hv⟩:=ww.1 hs;obtain⟨tt,h0,hty⟩:=ww.1 ht;obtain⟨cc,xs,ats⟩:=c;dsimp only at hc ha h0;obtain⟨xs⟩:=xs;dsimp only at ha;subst hc ha;refine .hoistM (v:= .d (.it .i64 (es.length:Nat))) ho hg b3 b4 b5 b6 (λcs b hq=>by rw[hop]at hq;cases hq) (λc hq=>by rw[hop]at hq;cases hq) (λw ev=>by simp[Oper.about,hop,resolve,Target.leads,zq]) hd (λ_=>rfl) (λκ g a W hst=>?_) hK;obtain⟨u,i,ht⟩:=QD (hti _ _ hty);obtain rfl:=Qf ht rfl;refine⟨.int .i64 es.length,λW'=>?_,.d _ _ (.it _ _)⟩;have h1:=XM hv (ρ_ok hst.sl hx);have h2:∃ad cap,a.eval x= .slice ad es.length cap:=by
     generalize a.eval x=q at h1;cases h1 with
     |fs0=>exact⟨_,_,rfl⟩
     |fs _ _ b off len cap vs hl=>subst hl;exact⟨_,_,rfl⟩
    obtain⟨ad,cap,h2⟩:=h2;rw[QH hop];simp[builtin,Builtin.len_,h2,h0,run_underlying ht.und,goInt]
   ·exact hK.elim
  ·exact hK.elim
 ·rename_i hn1 hn2;refine .hoistV hti h ?_ hK;unfold QAd at hB';unfold QDD;rw[ho]at hB'⊢;have:QTc o.op=QR5 o.op:=by
   cases hq:o.op<;>first|rfl|exact absurd hq (hn1 _ _ _ _ _)|exact absurd hq (hn2 _)
  dsimp only at hB'⊢;rw[this]at hB';exact hB'
def hNew(P:Program)(ti:Nat->Option Ty)(N:Nat)(K:S->Prop):List Nat->List Oper->S->Prop
 |[],ops,σ=>QJY P ti N ops (QFC 0 ops) (cut ops) σ K
 |h::hs,ops,σ=>X9 P ti ops h σ λσ'=>hNew P ti N K hs (Qi h h ops) σ'
def QKw(N:Nat):List Nat->List Oper->Bool
 |[],ops=>QOP ops
 |h::hs,ops=>QAd N ops h&&QKw N hs (Qi h h ops)
theorem Q7.hNew(hti:QN P ti):∀(hs:List Nat) (ops:List Oper) (σ:S),QKw N hs ops=true->Sy.hNew P ti N K hs ops σ->Q7 P ti N ops σ K
 |[],ops,σ,hB,h=> .new hti _ _ h
 |k::hs,ops,σ,hB,h=>by
  simp only[QKw,zf]at hB;exact .hoistW hti k hB.1 (X9.mono (λσ' hk=>Q7.hNew hti hs _ σ' hB.2 hk) h)
theorem QFN(hti:QN P ti)(hm:P.follows .mixedOrders=true){id:Nat}(hs:List Nat)(hB:QKw N hs ops=true)(h:hNew P ti N K hs ops σ):QY P ti N id ops σ K:= .of_A hm (.hNew hti hs ops σ hB h)
def hTreeW(P:Program)(ti:Nat->Option Ty)(N:Nat)(K:S->Prop)(T:Tr):List Nat->List Oper->S->Prop
 |[],ops,σ=>evC P ti N ops K T σ
 |h::hs,ops,σ=>X9 P ti ops h σ λσ'=>hTreeW P ti N K T hs (Qi h h ops) σ'
def QDF(N:Nat)(T:Tr):List Nat->List Oper->Bool
 |[],ops=>QH8 ops [] T.heads&&QCu ops [] T&& !T.isNil
 |h::hs,ops=>QAd N ops h&&QDF N T hs (Qi h h ops)
theorem Q7.hTreeW(hti:QN P ti){T:Tr}:∀(hs:List Nat) (ops:List Oper) (σ:S),QDF N T hs ops=true->Sy.hTreeW P ti N K T hs ops σ->Q7 P ti N ops σ K
 |[],ops,σ,hB,h=> .tree hti T hB h
 |k::hs,ops,σ,hB,h=>by
  simp only[QDF,zf]at hB;exact .hoistW hti k hB.1 (X9.mono (λσ' hk=>Q7.hTreeW hti hs _ σ' hB.2 hk) h)
theorem ZT(hti:QN P ti)(hm:P.follows .mixedOrders=true){id:Nat}(hs:List Nat)(T:Tr)(hB:QDF N T hs ops=true)(h:hTreeW P ti N K T hs ops σ):QY P ti N id ops σ K:= .of_A hm (.hTreeW hti hs ops σ hB h)
end
variable {listed:Array Bool}
variable {done:List Nat}
variable {rs:List ResultVar}
variable {pre post:List (Nat×Ob)}
variable {l l':List AV}
variable {p:Prop}
section
variable {P:Program} {ti:Nat->Option Ty} {N:Nat}
def QIP(D done:List Nat):Bool:=D.all (λk=>XV k done)&&done.all (λk=>XV k D)&&Nat.beq D.length done.length
def QOS:List Nat->Bool
 |[]=>true
 |k::l=> !XV k l&&QOS l
theorem QKx:∀ {l:List Nat},QOS l=true->l.Nodup
 |[],_=>wy
 |k::l,h=>by
  simp only[QOS,zf,wv]at h;exact vi.2 ⟨λhk=>(by rw[Qr.2 hk]at h;exact absurd h.1 (by decide)),QKx h.2⟩
structure QL(P:Program)(ti:Nat->Option Ty)(N:Nat)(ops:List Oper)(done:List Nat)(σ:S)(K:S->Prop):Prop where
 run:∀(κ:Ctx) (g:Gh) (a:Act) (w:World),St κ N g σ a w->∀Q:Exit->Act->World->Prop,(∀g' σ' a' w',K σ'->St κ N g' σ' a' w'->Q .normal a' w')->
  ∀(fuel:Nat) (listed:Array Bool),Dn ops.length listed done->fuel+done.length=ops.length->wpAnyIn (wd κ.rd) 0 P .any ops.toArray Q fuel listed a w
theorem Dn.same{l D:List Nat}(h:Dn m listed l)(hD:D.Nodup)(hs:QIP D l=true):Dn m listed D:=by
 simp only[QIP,zf,zb]at hs;have e:∀k,k∈D↔k∈l:=λk=>⟨λhk=>Qr.1 (hs.1.1 k hk),λhk=>Qr.1 (hs.1.2 k hk)⟩;exact⟨h.size,λk hk b=>(h.mem k hk b).trans (e k).symm,hD,λk hk=>h.lt k ((e k).1 hk)⟩
theorem QIQ{F:Fence}{fuel:Nat}{hs:List Nat}(hd:Dn ops.length listed done)(hc:QH8 ops done hs=true)(i:Nat)(hi:i∈hs)(hr:QD5 ops done i=true)(hil:i<ops.length)
  (h:∀i∈hs,∃fuel',fuel=fuel'+1/\wpOpIn F n P ops.toArray Q i (wpAnyIn F n P .any ops.toArray Q fuel' (listed.setIfInBounds i true)) a w):wpAnyIn F n P .any ops.toArray Q fuel listed a w:=by
 obtain⟨f,hf,_⟩:=h i hi;subst hf;refine⟨λh0=>?_,λk hk=>?_⟩
 ·exfalso;have:=QJT hd hil hr;rw[h0]at this;cases this
 ·have hcov:k∈hs:=by
   obtain⟨r1,r2,_⟩:=QJS hd hk;have:=zb.1 hc k (yj.2 r2);rw[r1]at this;simp only[uc,jc]at this;exact Qr.1 this
  obtain⟨f3,e3,h3⟩:=h k hcov;obtain rfl:f=f3:=by omega
  exact h3
theorem QL.fin(hti:QN P ti)(T:Tr)(hB:(QH8 ops done T.heads&&QCu ops done T&& !T.isNil)=true)(h:evC P ti N ops K T σ):QL P ti N ops done σ K:=by
 simp only[zf,wv]at hB;obtain⟨⟨b1,b2⟩,b3⟩:=hB;refine⟨λκ g a w hst Q hQ fuel listed hd hf=>?_⟩;have hs:=QH9 (N:=N) hti hQ T T done b2 (λ_ _=>trivial) fuel listed σ g a w hd hf h hst;cases T with
 |nil=>cases b3
 |cons i s r=>
  simp only[QCu,zf,z8]at b2;exact QIQ hd b1 i zm b2.1.1.1.2 b2.1.1.1.1 hs
theorem Q7.of_D(h:QL P ti N ops [] σ K):Q7 P ti N ops σ K:=
 ⟨λκ g a w hst Q hQ _=>h.run κ g a w hst Q hQ ops.length _ ⟨by simp,λk hk b=>by simp[Array.getD,hk],wy,λk hk=>by cases hk⟩ (by simp)⟩
def QIR(id:Nat):Code->Option (List Oper)
 | .region i ops _=>bif Nat.beq i id then some ops.toList else none
 | .loop c=>QIR id c
 | .seq a b=>match QIR id a with|some c=>some c|none=>QIR id b
 | .cond _ a b=>match QIR id a with|some c=>some c|none=>QIR id b
 | .block _ c=>QIR id c
 | .scope c=>QIR id c
 |_=>none
def QTd(id:Nat)(c:Code):List Oper:=match QIR id c with|some l=>l|none=>[]
theorem FnC.of{c:Code}{args:List AV}{r:AV}(hti:QN P ti)(hi:FnI P f N rs c)(hr:r.isP=true)(h:vc P ti N c (fin ti rs (· =r)) ⟨idx 0 args,[],0⟩)
  (ha:args.all AV.isP=true:=by exact rfl) (hl:args.length<=N:=by exact yf rfl):FnC P f args r:=by
 obtain⟨⟨fn,h1,h2,h3,h4⟩,h5⟩:=hi;subst h4;exact FnC.intro hti h1 h2 h3 h5 ha hl hr h
theorem FnH.of{cd:Code}{args:List AV}{st:List Nat}{r:AV}(hti:QN P ti)(hi:FnI P f N rs cd)(h:∀T,vc P ti N cd (QR3 ti N rs n st T r post) ⟨idx 0 args,pre++Qv n st T,n+1+st.length⟩)
  (ha:args.all (AV.lt n)=true:=by exact rfl) (hp:pre.all (λp=>Nat.blt p.1 n&&p.2.lt n&&p.2.pl)=true:=by exact rfl) (hq:post.all (λp=>Nat.blt p.1 m&&p.2.lt m&&p.2.pl)=true:=by exact rfl) (hnm:n<=m:=by decide) (hrl:r.lt m=true:=by exact rfl) (hs:st.all (λk=>Nat.blt k n&&QBn k pre)=true:=by exact rfl)
  (hqt:post.all (λp=>p.2.nt st p.1)=true:=by exact rfl) (hrt:r.nt st=true:=by exact rfl) (hlen:Nat.ble args.length N=true:=by exact rfl):FnH P f args pre n st r post m:=by
 obtain⟨⟨fn,h1,h2,h3,h4⟩,h5⟩:=hi;subst h4;exact FnH.intro hti h1 h2 h3 h5 ha hp hq hnm hrl hs hqt hrt hlen h
theorem CallI.h{args:List AV}{st:List Nat}{r:AV}(hC:FnH P f args pre n st r post m)(ns:List Nat)
  (h:K (S.put ⟨QCK (usL st 0 ns) σ.sl,X5 (phi ns n σ.nx) post++(Jm ns++Yx (usL st 0 ns) ns (st.map (XH ns)) σ.mem σ.mem),σ.nx+m⟩ o.dst (r.ren (phi ns n σ.nx))))
  (hl:l=args.map (AV.ren (XH ns)):=by with_unfolding_all exact rfl) (hn:ns.length=n/\ns.Nodup/\ns.all (λq=>Nat.blt q σ.nx)=true:=by exact⟨rfl,by decide,by with_unfolding_all exact rfl⟩)
  (hpre:ZK σ.mem (X5 (XH ns) pre):=by first|((repeat' (first|exact trivial|refine And.intro rfl ?_));done)|fail):CallI P N o σ f l K:=CallI.byH hC ns hl hn hpre rfl rfl h
theorem CallI.hp{args:List AV}{st:List Nat}{r:AV}(hC:FnH P f args pre n st r post m)(ns:List Nat)
  (h:K (S.put ⟨QCK (usL st 0 ns) σ.sl,X5 (phi ns n σ.nx) post++(Jm ns++Yx (usL st 0 ns) ns (st.map (XH ns)) σ.mem σ.mem),σ.nx+m⟩ o.dst (r.ren (phi ns n σ.nx))))
  (hlA:QEA l (args.map (AV.ren (XH ns))):=by first|((repeat' (first|exact trivial|refine And.intro (.inl rfl) ?_|refine And.intro (.inr (by with_unfolding_all exact rfl)) ?_));done)|fail) (hn:ns.length=n/\ns.Nodup/\ns.all (λq=>Nat.blt q σ.nx)=true:=by exact⟨rfl,by decide,by with_unfolding_all exact rfl⟩)
  (hpre:ZK σ.mem (X5 (XH ns) pre):=by first|((repeat' (first|exact trivial|refine And.intro rfl ?_));done)|fail):CallI P N o σ f l K:=CallI.byHp hC ns hlA hn hpre rfl rfl h
theorem cEk{K:AV->Prop}{B:Prop}{r:AV}(h:FnC P f l r)(k:K r):CallE (Zk P f l K) B:=CallE.con ⟨r,h,k⟩
theorem cPk{K:AV->Prop}{r:AV}(h:FnC P f l r)(k:K r):Zk P f l K:=⟨⟨r,h,k⟩⟩
theorem QO{st:List Nat}{T:Nat->Nat}{r:AV}(h1:match Xl ti rs σ with|some l=>YM l=r|none=>False:=by exact rfl)
  (h2:ZK σ.mem post:=by first|((repeat' (first|exact trivial|refine And.intro rfl ?_));done)|fail) (h3:ZK σ.mem (Qv n st T):=by first|((repeat' (first|exact trivial|refine And.intro rfl ?_));done)|fail):
  ∃τ,Wk N σ τ/\(match Xl ti rs τ with|some l=>YM l=r|none=>False)/\ZK τ.mem post/\ZK τ.mem (Qv n st T):=JT h1 h2 h3
theorem Wk.e(h1:ZK σ.sl τ.sl:=by first|((repeat' (first|exact trivial|refine And.intro rfl ?_));done)|fail)(h2:ZK σ.mem τ.mem:=by first|((repeat' (first|exact trivial|refine And.intro rfl ?_));done)|fail)(h3:τ.ok=true:=by exact rfl):Wk N σ τ:=Wk.en ⟨h1,h2,h3⟩
theorem Wk.r(φ:Nat->Nat)(h1:ZK σ.sl (QII φ τ.sl):=by first|((repeat' (first|exact trivial|refine And.intro rfl ?_));done)|fail)(h2:ZK σ.mem (QP6 φ τ.mem):=by first|((repeat' (first|exact trivial|refine And.intro rfl ?_));done)|fail)(h3:QTa φ τ.mem=true:=by exact rfl)(h4:τ.ok=true:=by exact rfl):Wk N σ τ:=Wk.ren φ h1 h2 h3 h4
theorem rr(h:p:=by first|((repeat' (first|exact trivial|refine And.intro rfl ?_));done)|fail):p:=h
theorem wu(h:p:=by with_unfolding_all exact rfl):p:=h
theorem om(h:p:=by omega):p:=h
theorem dkk(h:p:=by decide+kernel):p:=h
theorem cXk{r:AV}{q:Prop}(hC:FnC P f l r)(k:q)(h:FnC P f l r->q->p:=by intro a b;first|exact cEk a b|exact cPk a b):p:=h hC k
theorem rF{r:AV}(h:FnC P f l' r)(k:K (σ.put o.dst r))(hA:ArF σ.mem l l')(hr:r.flatP=true:=by with_unfolding_all exact rfl):CallI P N o σ f l K:=CallI.byR (JB.mkF ⟨l',r,hA,h,hr,k⟩)
theorem rR{mem:List (Nat×Ob)}{K:AV->Prop}{r:AV}(h:FnC P f l' r)(k:K r)(hA:ArF mem l l')(hr:r.flatP=true:=by with_unfolding_all exact rfl):JB P mem f l K:=JB.mkF ⟨l',r,hA,h,hr,k⟩
end
variable {x:Operand}
variable {tp:List D}
section
variable {P:Program} {ti:Nat->Option Ty} {N:Nat} {σ:S} {o:Oper} {K:S->Prop}
def QAI(l:List (List D×D))(x:List D)(v:D):List (List D×D):=match ZI l x with
 |some _=>QJd l (QAH l x) v
 |none=>l++[(x,v)]
theorem OpX.mapUpdateA{kk:Nat}{i y:Operand}{kx:List D}{vx:D}{l l2:List (List D×D)}(hop:o.op= .mapUpdate t x i y)(hno:o.dst=none)(ht:P.underlying t=some (.map ke ee))(hF:Yy P ke tp)
  (hx:ρ σ.sl x=some (.mp n)) (hm:look n σ.mem=some (.mp true true tp l)) (hi:ρ σ.sl i=some (.dg kk kx)) (hl:Qb tp kx=true) (hy:ρ σ.sl y=some (.d vx)) (hl2:QAI l kx vx=l2)
  (hK:K ⟨σ.sl,(n,.mp true true tp l2)::σ.mem,σ.nx⟩):OpX P N o σ K:=by
 refine⟨λhdN κ g a w hst next Q hn=>?_⟩;subst hl2;have hx':=ρ_ok hst.sl hx;generalize ha:a.eval x=p at hx';have hob:=hst.inv.obs n _ hm;have hh:g.has n=true:=hob.1 rfl;cases hx' with|mp _ q0 hq0=>?_
 rw[hh,if_pos rfl]at hq0;subst hq0;have hi':=ρ_ok hst.sl hi;generalize hb:a.eval i=q at hi';have hkey:=QKv hi' hl;have hy':=ρ_ok hst.sl hy;generalize hc:a.eval y=s at hy';cases hy' with|d _ _ hy'=>?_
 obtain⟨es,ck,h1,h2,h4⟩:=ZJ.rel hob hh;have hlt:g.blk n<w.heap.size:=(vw.1 h1).1;have key:∃o',(execOp a.eval o).run P w= .ok .skip (w.putObj (g.blk n) o')/\ZW κ g (w.putObj (g.blk n) o') n (.mp true true tp (QAI l kx vx)):=by
  rcases hF.find hkey w l es.toList h2 with⟨a1,a2⟩|⟨z',e',a1,a2,a3,a4,a5⟩
  ·have hadd:QAI l kx vx=l++[(kx,vx)]:=by unfold QAI;rw[a1]
   refine⟨.map (es.push {key:=q,val:=s,born:=ck}) (ck+1),?_,hadd▸ZJ.of_rel hh (vv hlt) (by rw[Array.toList_push];exact QIN hkey hy' h2) h4.1 (h4.2.push _ _)⟩;simp[execOp,hop,ha,hb,hc,Instr.mapUpdate,run_underlying ht,wg h1,hF.chk _ _ _ hkey,a2,kh _ h1,Result.andThen,World.putObj]
  ·have hadd:QAI l kx vx=QJd l (QAH l kx) vx:=by unfold QAI;rw[a1]
   have hj:es[QAH l kx]? =some e':=by simpa using a3
   refine⟨.map (es.modify (QAH l kx) λe=> {e with key:=q,val:=s}) ck,?_,hadd▸ZJ.of_rel hh (vv hlt) ?_ h4.1 (h4.2.modify _ _ λ_=>rfl)⟩
   ·simp [execOp,hop,ha,hb,hc,Instr.mapUpdate,run_underlying ht,wg h1,hF.chk _ _ _ hkey,a2,hj,a4,QLz hkey,kh _ h1,Result.andThen,World.putObj]
   ·have hm2:(es.modify (QAH l kx) λe=> {e with key:=q,val:=s}).toList=es.toList.set (QAH l kx) {e' with val:=s}:=by
     rw[W8,Wm _ _ _ _ (by simpa using a3),<-a4]
    rw[hm2];exact QIO hy' _ _ h2 (by simpa using a3)
 obtain⟨o',hrun,hob'⟩:=key;refine Jf hrun (hn g _ _ _ hK ?_);rw[hno];exact⟨hst.size,hst.defers,hst.sl,hst.inv.reMap hm hh hob',by
  refine S.ok_iff.2 ⟨(S.ok_iff.1 hst.ok).1,λp hp=>?_⟩;rcases zj.1 hp with rfl|hp
  ·exact ⟨(S.ok_mem hst.ok hm).1,rfl⟩
  ·exact S.ok_memAll hst.ok p hp⟩
theorem OpX.lookupOk{i:Operand}{dsc:TypeDesc}{kx r zd:D}{zv:Value}{b ok:Bool}{l:List (List D×D)}(hop:o.op= .lookup t x i true)(hd:o.dst=some d)(ht:P.underlying t=some (.map ke ee))(hke:P.underlying ke=some dsc)(hT:QIG dsc tp=true)
  (hz:∀w,(zeroValue ee).run P w= .ok zv w) (hzd:∀F,DR F zd zv) (hx:ρ σ.sl x=some (.mp n)) (hm:look n σ.mem=some (.mp b false tp l)) (hi:ρ σ.sl i=some (.d kx)) (hl:Qb tp [kx]=true) (hr:(match ZI l [kx]with|some v=>(v,true)|none=>(zd,false))=(r,ok))
  (hK:K ⟨(d,.tup [.d r,.d (.bl ok)])::σ.sl,σ.mem,σ.nx⟩):OpX P N o σ K:=by
 refine⟨λhdN κ g a w hst next Q hn=>?_⟩;have hx':=ρ_ok hst.sl hx;generalize ha:a.eval x=p at hx';cases hx' with|mp _ q hq=>?_
 have hi':=ρ_ok hst.sl hi;generalize hb:a.eval i=q at hi';cases hi' with|d _ _ hi'=>?_
 have hkey:Xs g.F false tp [kx] q:=⟨hl,by rw[if_neg (by decide)];exact⟨kx,rfl,hi'⟩⟩;have hik:=JV hT hkey;have hob:=hst.inv.obs n _ hm;have key:∃v,(execOp a.eval o).run P w= .ok (.value (.tuple #[v,.bool ok])) w/\DR g.F r v:=by
  cases hh:g.has n with
  |false=>
   rw[hh,if_neg (by decide)]at hq;subst hq;have hl0:=hob.2.1 hh;subst hl0;have hr:(zd,false)=(r,ok):=hr;obtain⟨hr1,hr2⟩:=Ve hr;subst hr2;refine⟨zv,?_,hr1▸hzd _⟩;have hf:(Instr.findKey ke q []).run P w= .ok none w:=vm hke rfl;simp[execOp,hop,ha,hb,Instr.lookup,run_underlying ht,vj hke hik,hf,hz,Result.andThen]
  |true=>
   rw[hh,if_pos rfl]at hq;subst hq;obtain⟨es,ck,h1,h2,h4⟩:=ZJ.rel hob hh;rcases QBp hT hkey l es.toList 0 h2 with⟨a1,a2,_⟩|⟨z',j,e',a1,a2,_,_,a5,_⟩
   ·rw [a1]at hr;have hr:(zd,false)=(r,ok):=hr;obtain⟨hr1,hr2⟩:=Ve hr;subst hr2;refine⟨zv,?_,hr1▸hzd _⟩;simp[execOp,hop,ha,hb,Instr.lookup,run_underlying ht,wg h1,vj hke hik,vm hke a2,hz,Result.andThen]
   ·rw [a1]at hr;have hr:(z',true)=(r,ok):=hr;obtain⟨hr1,hr2⟩:=Ve hr;subst hr2;refine⟨e'.val,?_,hr1▸a5⟩;simp[execOp,hop,ha,hb,Instr.lookup,run_underlying ht,wg h1,vj hke hik,vm hke a2,Result.andThen]
 obtain⟨v,hrun,hv⟩:=key;refine QR hrun (hn g _ _ _ hK ?_);rw[hd];refine hst.put (hdN _ hd) (Ext.refl _ _) hst.inv (.tup _ _ rfl λj hj=>?_) (S.ok_cons hst.ok (zr _) rfl (S.ok_memAll hst.ok))
 match j,hj with
 |0,_=>exact .d _ _ hv
 |1,_=>exact .d _ _ (.bl _)
end
section
variable {P:Program} {ti:Nat->Option Ty} {N:Nat}
def QR8(P:Program)(ti:Nat->Option Ty)(N:Nat)(ops:List Oper)(done:List Nat)(K:S->Prop):List Nat->S->Prop
 |[],_=>True
 |i::hs,σ=>Br (match ops[i]? with
  |some o=>Zc P ti N ops [o] σ λσ'=>QL P ti N ops (i::done) σ' K
  |none=>False) (QR8 P ti N ops done K hs σ)
theorem QKy{ops:List Oper}{done:List Nat}{K:S->Prop}{σ:S}:∀ {hs:List Nat},QR8 P ti N ops done K hs σ->∀i∈hs,∃o,ops[i]? =some o/\Zc P ti N ops [o] σ λσ'=>QL P ti N ops (i::done) σ' K
 |[],_,i,hi=>by cases hi
 |j::hs,h,i,hi=>by
  obtain⟨h1,h2⟩:=h;rcases zj.1 hi with rfl|hi
  ·cases ho:ops[i]? with
   |none=>rw[ho]at h1;exact h1.elim
   |some o=>rw[ho]at h1;exact⟨o,rfl,h1⟩
  ·exact QKy h2 i hi
theorem QL.alt(hti:QN P ti)(hs:List Nat)(hB:(QH8 ops done hs&&hs.all (λi=>Nat.blt i ops.length&&QD5 ops done i)&& !hs.isEmpty)=true)(h:QR8 P ti N ops done K hs σ):QL P ti N ops done σ K:=by
 simp only[zf,wv,zb,z8]at hB;obtain⟨⟨b1,b2⟩,b3⟩:=hB;refine⟨λκ g a w hst Q hQ fuel listed hd hf=>?_⟩;have key:∀j∈hs,∃fuel',fuel=fuel'+1/\wpOpIn (wd κ.rd) 0 P ops.toArray Q j (wpAnyIn (wd κ.rd) 0 P .any ops.toArray Q fuel' (listed.setIfInBounds j true)) a w:=by
  intro j hj;obtain⟨b4,b5⟩:=b2 j hj;obtain⟨o,ho,he⟩:=QKy h j hj;have hid:j∉done:=λh=>by unfold QD5 at b5;rw[Qr.2 h]at b5;simp at b5
  have hnd:(j::done).Nodup:=vi.2 ⟨hid,hd.nd⟩;have hltd:∀k∈j::done,k<ops.length:=λk hk=>by
   rcases zj.1 hk with rfl|hk
   ·exact b4
   ·exact hd.lt k hk
  have hlen:=QCH ops.length (j::done) hnd hltd;simp only[yo]at hlen;obtain⟨fuel',rfl⟩:∃f,fuel=f+1:=⟨fuel-1,by omega⟩;refine⟨fuel',rfl,?_⟩;refine QA7 hti ho he hst λg' σ' a' w' hK hst'=>?_;have hd':Dn ops.length (listed.setIfInBounds j true) (j::done):=by
   refine⟨by simp[hd.size],λk hk b=>?_,hnd,hltd⟩;by_cases hjk:j=k
   ·subst hjk;rw[QT b (by rw[hd.size];exact hk)];simp
   ·rw [getD_set_ne b hjk,hd.mem k hk b,zj];exact⟨.inr,λh=>h.resolve_left (vf hjk)⟩
  have hK':QL P ti N ops (j::done) σ' K:=hK;exact hK'.run κ g' a' w' hst' Q hQ fuel' _ hd' (by simp only[yo];omega)
 cases hs with
 |nil=>cases b3
 |cons i s=>exact QIQ hd b1 i zm (b2 i zm).2 (b2 i zm).1 key
theorem QL.tow{D:List Nat}(h:QL P ti N ops D τ K)(hB:(QIP D done&&QOS D)=true)(hw:Wk N σ τ):QL P ti N ops done σ K:=by
 simp only[zf]at hB;refine⟨λκ g a w hst Q hQ fuel listed hd hf=>?_⟩;obtain⟨g2,hst2⟩:=hw.run κ g a w hst;have hl:D.length=done.length:=by
  have:=hB.1;simp only[QIP,zf]at this;exact zh this.2
 exact h.run κ g2 a w hst2 Q hQ fuel listed (hd.same (QKx hB.2) hB.1) (by omega)
end
section
variable {P:Program} {ti:Nat->Option Ty} {N:Nat} {mem:List (Nat×Ob)}
end
end Go.Sy
