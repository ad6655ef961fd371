/- A computing verification layer for data, proved sound over the library: what a body comes to, by its literal code. Conditions: none. -/
import Derived.Test.YtikgcbioagmkkaaGreatDoorPSD
import Derived.Test.YtikgcbioagmkkaaGreatDoorPSC
set_option maxRecDepth 100000
set_option linter.all false
namespace Go.Sy
variable {Q:Exit->Act->World->Prop}
variable {i d m n f t ke ee:Nat}
variable {o:Oper}
variable {v:Value}
variable {a:Act}
variable {w:World}
variable {ops:List Oper}
variable {σ τ:S}
variable {K:S->Prop}
section
variable {P:Program} {ti:Nat->Option Ty} {N:Nat} {F:Fence} {n:Nat}
theorem QDE{ops:Array Oper}(hi:ops[i]? =some o)(hd:∀c,o.op≠ .defer c)(hb:∀w ev,o.about P w ev=none)(hg:o.guard=none){K:Act->World->Prop}(hv:YV P o v a)(h:K (a.put o.dst v) w):wpOpIn F n P ops Q i K a w:=by
 unfold Go.wpOpIn;simp only[hi];rw[if_pos (XA hg)];refine⟨λf hf=>?_,?_⟩
 ·rw [hb]at hf;cases hf
 ·rw [kh _ _ _ hd,hv w];exact h
theorem QHB{ops:Array Oper}{md:Region.Mode}{oi:Oper}(hi:ops[i]? =some oi)(hs:∀cs b,oi.op≠ .select cs b)(hd:∀c,oi.op≠ .defer c)(hb:∀w ev,oi.about P w ev=none)(hg:oi.guard=none)
  (hsel:∀(j:Nat) (o:Oper),ops[j]? =some o->(∀cs b,o.op≠ .select cs b)/\∀c,o.op≠ .defer c) (hQ:∀c a w,¬Q (.panic c) a w):
  ∀(fuel:Nat) (listed:Array Bool) (a:Act) (w:World),YV P oi v a->
   (∀j oj,ops[j]? =some oj->j≠i->listed.getD j true=false->(∀e∈oj.after,Region.binds md e=true->e.on≠i)->oi.apart ops oj=true)->
   i∈Region.ready md ops listed->
   wpAnyIn F n P md ops Q fuel (listed.setIfInBounds i true) (a.put oi.dst v) w->wpAnyIn F n P md ops Q (fuel+1) listed a w:=by
 intro fuel;induction fuel with
 |zero=>
  intro listed a w hv _ hr H;refine⟨λh=>(by rw[h]at hr;cases hr),λj hj=>?_⟩;by_cases hji:j=i
  ·subst hji;exact QDE hi hd hb hg hv H
  ·have:=ready_mono hj hji;rw[H.1]at this;cases this
 |succ fuel ih=>
  intro listed a w hv hfree hr H;refine⟨λh=>(by rw[h]at hr;cases hr),λj hj=>?_⟩;by_cases hji:j=i
  ·subst hji;exact QDE hi hd hb hg hv H
  ·have h1:=H.2 j (ready_mono hj hji);obtain⟨hjun,oj,hoj,hall⟩:=mem_ready.1 hj;have hnot:∀e∈oj.after,Region.binds md e=true->e.on≠i:=λe he hb heq=>by
    have h1:=hall e he hb;have h0:=(mem_ready.1 hr).1;rw[heq]at h1;rcases yj i listed.size with h'|h'
    ·simp [h']at h0 h1;rw[h0]at h1;cases h1
    ·simp [xh h']at h1
   have h2:=QDD hoj hs (hfree j oj hoj hji hjun hnot) (hsel j oj hoj).1 (hsel j oj hoj).2 hQ hv h1;have hfree':∀k ok,ops[k]? =some ok->k≠i->(listed.setIfInBounds j true).getD k true=false->
     (∀e∈ok.after,Region.binds md e=true->e.on≠i)->oi.apart ops ok=true:=λk ok hk hki hun hno=>by
    refine hfree k ok hk hki ?_ hno;by_cases hjk:j=k
    ·subst hjk;exact hjun
    ·rw [getD_set_ne true hjk]at hun;exact hun
   refine wpOpIn_mono (λa' w' ⟨h3,hv'⟩=>ih (listed.setIfInBounds j true) a' w' hv' hfree' (ready_mono hr (vb hji)) ?_) h2;rw[j6 _ _ hji];exact h3
def QUB:Op->Bool
 | .binOp .add .. | .binOp .sub .. =>true
 | .call c=>match c.callee with
  | .builtin .len=>true
  |_=>false
 |o=>QSe o
def QAy(N:Nat)(ops:List Oper)(h:Nat):Bool:=
 match ops[h]? with
 |some o=>QUB o.op&&(match o.guard with|none=>true|some _=>false)&&(match o.dst with|some d=>Nat.blt d N|none=>false)&&o.after.toList.all (λe=> !Region.binds .any e)&&ops.all (λo=>QJz o.op&&QBB h o)&&
   Region.free .any ops.toArray (Array.replicate ops.length false) h
 |none=>false
theorem ZG.hoistM{h:Nat}{v:AV}(ho:ops[h]? =some o)(hg:o.guard=none)(b3:(match o.dst with|some d=>Nat.blt d N|none=>false)=true)
  (b4:(o.after.toList.all (λe=> !Region.binds .any e))=true) (b5:(ops.all (λo=>QJz o.op&&QBB h o))=true) (b6:Region.free .any ops.toArray (Array.replicate ops.length false) h=true)
  (hn1:∀cs b,o.op≠ .select cs b) (hn2:∀c,o.op≠ .defer c) (hab:∀w ev,o.about P w ev=none)
  (hd:o.dst=some d) (hlt:σ.ok=true->v.lt σ.nx=true) (hY:∀κ g a w,St κ N g σ a w->∃u,YV P o u a/\AVR g v u) (hK:ZG P ti N (Qw h h ops) ⟨(d,v)::σ.sl,σ.mem,σ.nx⟩ K):ZG P ti N ops σ K:=by
 have hdN:d<N:=by rw[hd]at b3;simpa using b3
 have hhl:h<ops.length:=(z6.1 ho).1;have ho':ops.toArray[h]? =some o:=by simpa using ho
 have hall:∀(j:Nat) (o':Oper),ops[j]? =some o'->QJz o'.op=true/\QBB h o'=true:=λj o' hj=>by
  have:=ze.1 b5 o' (ya hj);simpa using this
 refine⟨λκ g a w hst Q hQ hP=>?_⟩;obtain⟨u,hyv,hav⟩:=hY κ g a w hst;have hst1:St κ N g ⟨(d,v)::σ.sl,σ.mem,σ.nx⟩ (a.put o.dst u) w:=by
  rw[hd];exact hst.put hdN (.refl _ _) hst.inv hav (S.ok_cons hst.ok (zt _) (hlt hst.ok) (S.ok_memAll hst.ok))
 have h1:=hK.run κ g _ w hst1 Q hQ hP;have hdl:=QDf (h:=h) h ops hhl;obtain⟨m,hm⟩:∃m,ops.length=m+1:=⟨ops.length-1,by omega⟩;have hdm:(Qw h h ops).length=m:=by omega
 rw[hdm]at h1;rw[hm];refine QHB ho' hn1 hn2 hab hg (λj o' hj=>?_) hP m _ a w hyv ?_ ?_ ?_
 ·have:=(hall j o' (by simpa using hj)).1;refine⟨λcs b hq=>?_,λc hq=>?_⟩<;>rw[hq]at this<;>cases this
 ·intro j oj hj hne hun hno;have:=Wn ho' b6 j oj hj hne (by rw[hm];exact hun) hno;exact this
 ·refine mem_ready.2 ⟨by simp[Array.getD];omega,o,ho',λe he hb=>?_⟩;have:=ze.1 b4 e (by simpa using he);rw[hb]at this;cases this
 ·refine QG5 (h:=h) (λj o' hj i c hgc hih=>?_) m _ _ _ w ?_ ?_ ?_ h1
  ·have:=(hall j o' hj).2;unfold QBB at this;rw[hgc]at this;simp only[hih,wc,vw]at this;cases this
  ·intro i b;rw[getD_set_ne b (vb (QOa h i))];by_cases hi:i<m
   ·have:up h i<m+1:=by
     unfold up;by_cases hih:i<h
     ·rw [ZZ hih,cond_true];omega
     ·rw [XN hih,cond_false];omega
    simp[Array.getD,hi,this]
   ·have:¬up h i<m+1:=by
     unfold up;by_cases hih:i<h
     ·rw [ZZ hih,cond_true];omega
     ·rw [XN hih,cond_false];omega
    simp[Array.getD,hi,this]
  ·exact Qm true (by simp;omega)
  ·exact Qm false (by simp;omega)
def YE(P:Program)(ti:Nat->Option Ty)(ops:List Oper)(h:Nat)(σ:S)(K':S->Prop):Prop:=
 match ops[h]? with
 |some o=>match o.op with
  | .binOp op t x y _=>match o.dst,ρ σ.sl x,ρ σ.sl y with
   |some d,some (.d (.it .i64 a)),some (.d (.it .i64 b))=>QE2 op .i64 a b λz=>K' ⟨(d,.d z)::σ.sl,σ.mem,σ.nx⟩
   |_,_,_=>False
  | .call c=>match c.callee,c.args.toList,o.dst,(c.argTypes[0]?).bind ti with
   | .builtin .len,[x],some d,some ⟨.slice e,_,_,_,_,_⟩=>match (ρ σ.sl x).bind Z5 with
    |some (_,es)=>K' ⟨(d,.d (.it .i64 (es.length:Nat)))::σ.sl,σ.mem,σ.nx⟩
    |none=>False
   |_,_,_,_=>False
  |_=>Ym P ti ops h σ K'
 |none=>False
theorem ZG.new(hti:QU P ti)(h m:Nat)(hK:QJ5 P ti N ops h m σ K):ZG P ti N ops σ K:=by
 unfold QJ5 at hK;split at hK
 case h_2=>exact hK.elim
 rename_i oh hoh;split at hK
 case h_2=>exact hK.elim
 rename_i e d hop hd;split at hK
 case h_2=>exact hK.elim
 rename_i ty hty;obtain⟨hb,hK⟩:=Qf hK;simp only[zf]at hb;obtain⟨hb,hb1,hb2⟩:=hb;unfold QQX at hb;split at hb
 case h_2=>cases hb
 rename_i ms d' hms hd' hg;have hdd:d'=d:=by rw[hd]at hd';exact(za hd').symm
 subst hdd;simp only[zf]at hb;obtain⟨⟨⟨⟨c1,c2⟩,c3⟩,c4⟩,c5⟩:=hb;have hml:=yg c2;have hhm:h<m:=by simpa using c1
 refine⟨λκ g a w hst Q hQ _=>?_⟩;obtain⟨vs,σ',htail,hok',hmem,hnx,hch⟩:=YS hti _ σ hst.ok hK;rw[hmem,hnx]at htail;have key:wpAnyIn (wd κ.rd) 0 P .any ops.toArray Q ops.length (Array.replicate ops.length false) a w:=by
  have:=QLC (Q:=Q) hti hoh hop hg hd hty (zh hb1) (by simpa using hb2) hhm (λo ho=>by
    unfold QST at c5;rw[ze]at c5;have:=c5 o ho;rw[wx]at this;intro hmem';rw[ZF.2 hmem']at this;cases this) hms hml (λi' h1 h2=>YU c4 i' h1 (by omega)) c3 hst.ok hok' hmem hnx hch hQ htail m (List.range m) (Array.replicate ops.length false) g a w
   xj qf (λk=>by
    rw[xd];refine⟨λhk=>⟨hk,by simp[Array.getD,show k<ops.length by omega]⟩,λhk=>hk.1⟩) (by simp) (λk _ hk=>by simp[Array.getD,hk]) (λk o _ hk=>by simp[Array.getD]at hk)
   (by
    have hf:(Array.replicate ops.length false).getD h false=false:=by simp[Array.getD]
    rw[hf];exact⟨hst.size,hst.defers,hst.inv,(λhl=>by cases hl),λi d _ hi=>by simp[Array.getD]at hi,λk v hk _=>hst.sl k v hk⟩)
  rw[show m+(ops.length-m)=ops.length by omega]at this;exact this
 exact key
theorem QE2.mono{op:BinOp}{k:IntKind}{a b:Int}{A B:D->Prop}(hab:∀z,A z->B z)(h:QE2 op k a b A):QE2 op k a b B:=by
 cases op<;>simp only[QE2]at h⊢;all_goals first|exact hab _ h|exact⟨hab _ h.run⟩|exact⟨h.1,⟨hab _ h.2.run⟩⟩
theorem YE.mono{h:Nat}{A B:S->Prop}(hab:∀σ,A σ->B σ)(hk:YE P ti ops h σ A):YE P ti ops h σ B:=by
 unfold YE at hk⊢;split at hk
 ·split at hk
  ·split at hk
   ·exact QE2.mono (λz=>hab _) hk
   ·exact hk.elim
  ·split at hk
   ·split at hk
    ·exact hab _ hk
    ·exact hk.elim
   ·exact hk.elim
  ·exact Ym.mono hab hk
 ·exact hk.elim
theorem ZG.hoistW(hti:QU P ti)(h:Nat)(hB:QAy N ops h=true)(hK:YE P ti ops h σ λσ'=>ZG P ti N (Qw h h ops) σ' K):ZG P ti N ops σ K:=by
 cases ho:ops[h]? with
 |none=>unfold QAy at hB;rw[ho]at hB;cases hB
 |some o=>
 have hB':=hB;unfold QAy at hB;unfold YE at hK;rw[ho]at hB hK;simp only[zf]at hB;obtain⟨⟨⟨⟨⟨b1,b2⟩,b3⟩,b4⟩,b5⟩,b6⟩:=hB;have hg:o.guard=none:=by
  cases hq:o.guard with
  |none=>rfl
  |some _=>rw[hq]at b2;cases b2
 simp only at hK;split at hK
 ·rename_i op t x y t' hop;split at hK
  ·rename_i d a b hd hx hy;have hpl:op≠ .shl/\op≠ .shr:=by
    rw[hop]at b1;refine⟨λq=>?_,λq=>?_⟩<;>(subst q;cases b1)
   obtain⟨z,w,hKz,hD,hr⟩:=QDd (P:=P) hK;refine .hoistM (v:= .d z) ho hg b3 b4 b5 b6 (λcs b hq=>by rw[hop]at hq;cases hq) (λc hq=>by rw[hop]at hq;cases hq) (λw ev=>by unfold Oper.about;rw[hop]) hd (λ_=>rfl) (λκ g A W hst=>?_) hKz;refine⟨w,λW'=>?_,.d _ _ (hD _)⟩;have h1:=ZI (ρ_ok hst.sl hx);have h2:=ZI (ρ_ok hst.sl hy);simp only[execOp,hop,h1,h2,zp,Xo op t x y _ _ (.inl ⟨_,_,rfl⟩),zg,hr t .i64 (.inl rfl) W',zq]
  ·exact hK.elim
 ·rename_i c hop;split at hK
  ·rename_i x d e _ _ _ _ _ hc ha hd ht;split at hK
   ·rename_i sz es hs;obtain⟨v,hx,hv⟩:=wy.1 hs;obtain⟨tt,h0,hty⟩:=wy.1 ht;obtain⟨cc,xs,ats⟩:=c;dsimp only at hc ha h0;obtain⟨xs⟩:=xs;dsimp only at ha;subst hc ha;refine .hoistM (v:= .d (.it .i64 (es.length:Nat))) ho hg b3 b4 b5 b6 (λcs b hq=>by rw[hop]at hq;cases hq) (λc hq=>by rw[hop]at hq;cases hq) (λw ev=>by simp[Oper.about,hop,resolve,Target.leads,zq]) hd (λ_=>rfl) (λκ g a W hst=>?_) hK;obtain⟨u,i,ht⟩:=QE (hti _ _ hty);obtain rfl:=Q3 ht rfl;refine⟨.int .i64 es.length,λW'=>?_,.d _ _ (.it _ _)⟩;have h1:=XV hv (ρ_ok hst.sl hx);have h2:∃ad cap,a.eval x= .slice ad es.length cap:=by
     generalize a.eval x=q at h1;cases h1 with
     |fs0=>exact⟨_,_,rfl⟩
     |fs _ _ b off len cap vs hl=>subst hl;exact⟨_,_,rfl⟩
    obtain⟨ad,cap,h2⟩:=h2;rw[QQ hop];simp[builtin,Builtin.len_,h2,h0,run_underlying ht.und,goInt]
   ·exact hK.elim
  ·exact hK.elim
 ·rename_i hn1 hn2;refine .hoistV hti h ?_ hK;unfold QAy at hB';unfold QDj;rw[ho]at hB'⊢;have:QUB o.op=QSe o.op:=by
   cases hq:o.op<;>first|rfl|exact absurd hq (hn1 _ _ _ _ _)|exact absurd hq (hn2 _)
  dsimp only at hB'⊢;rw[this]at hB';exact hB'
def hNew(P:Program)(ti:Nat->Option Ty)(N:Nat)(K:S->Prop):List Nat->List Oper->S->Prop
 |[],ops,σ=>QJ5 P ti N ops (QFy 0 ops) (cut ops) σ K
 |h::hs,ops,σ=>YE P ti ops h σ λσ'=>hNew P ti N K hs (Qw h h ops) σ'
def QLQ(N:Nat):List Nat->List Oper->Bool
 |[],ops=>QOg ops
 |h::hs,ops=>QAy N ops h&&QLQ N hs (Qw h h ops)
theorem ZG.hNew(hti:QU P ti):∀(hs:List Nat) (ops:List Oper) (σ:S),QLQ N hs ops=true->Sy.hNew P ti N K hs ops σ->ZG P ti N ops σ K
 |[],ops,σ,hB,h=> .new hti _ _ h
 |k::hs,ops,σ,hB,h=>by
  simp only[QLQ,zf]at hB;exact .hoistW hti k hB.1 (YE.mono (λσ' hk=>ZG.hNew hti hs _ σ' hB.2 hk) h)
theorem QF9(hti:QU P ti)(hm:P.follows .mixedOrders=true){id:Nat}(hs:List Nat)(hB:QLQ N hs ops=true)(h:hNew P ti N K hs ops σ):QX P ti N id ops σ K:= .of_A hm (.hNew hti hs ops σ hB h)
def hTreeW(P:Program)(ti:Nat->Option Ty)(N:Nat)(K:S->Prop)(T:Tr):List Nat->List Oper->S->Prop
 |[],ops,σ=>evC P ti N ops K T σ
 |h::hs,ops,σ=>YE P ti ops h σ λσ'=>hTreeW P ti N K T hs (Qw h h ops) σ'
def QDl(N:Nat)(T:Tr):List Nat->List Oper->Bool
 |[],ops=>QIg ops [] T.heads&&QDO ops [] T&& !T.isNil
 |h::hs,ops=>QAy N ops h&&QDl N T hs (Qw h h ops)
theorem ZG.hTreeW(hti:QU P ti){T:Tr}:∀(hs:List Nat) (ops:List Oper) (σ:S),QDl N T hs ops=true->Sy.hTreeW P ti N K T hs ops σ->ZG P ti N ops σ K
 |[],ops,σ,hB,h=> .tree hti T hB h
 |k::hs,ops,σ,hB,h=>by
  simp only[QDl,zf]at hB;exact .hoistW hti k hB.1 (YE.mono (λσ' hk=>ZG.hTreeW hti hs _ σ' hB.2 hk) h)
theorem Zh(hti:QU P ti)(hm:P.follows .mixedOrders=true){id:Nat}(hs:List Nat)(T:Tr)(hB:QDl N T hs ops=true)(h:hTreeW P ti N K T hs ops σ):QX P ti N id ops σ K:= .of_A hm (.hTreeW hti hs ops σ hB h)
end
variable {listed:Array Bool}
variable {done:List Nat}
variable {rs:List ResultVar}
variable {pre post:List (Nat×Ob)}
variable {l l':List AV}
variable {p:Prop}
section
variable {P:Program} {ti:Nat->Option Ty} {N:Nat}
def QIw(D done:List Nat):Bool:=D.all (λk=>Xf k done)&&done.all (λk=>Xf k D)&&Nat.beq D.length done.length
def QOl:List Nat->Bool
 |[]=>true
 |k::l=> !Xf k l&&QOl l
theorem QLR:∀ {l:List Nat},QOl l=true->l.Nodup
 |[],_=>w9
 |k::l,h=>by
  simp only[QOl,zf,wx]at h;exact vo.2 ⟨λhk=>(by rw[ZF.2 hk]at h;exact absurd h.1 (by decide)),QLR h.2⟩
structure QI(P:Program)(ti:Nat->Option Ty)(N:Nat)(ops:List Oper)(done:List Nat)(σ:S)(K:S->Prop):Prop where
 run:∀(κ:Ctx) (g:Gh) (a:Act) (w:World),St κ N g σ a w->∀Q:Exit->Act->World->Prop,(∀g' σ' a' w',K σ'->St κ N g' σ' a' w'->Q .normal a' w')->
  ∀(fuel:Nat) (listed:Array Bool),Dn ops.length listed done->fuel+done.length=ops.length->wpAnyIn (wd κ.rd) 0 P .any ops.toArray Q fuel listed a w
theorem Dn.same{l D:List Nat}(h:Dn m listed l)(hD:D.Nodup)(hs:QIw D l=true):Dn m listed D:=by
 simp only[QIw,zf,ze]at hs;have e:∀k,k∈D↔k∈l:=λk=>⟨λhk=>ZF.1 (hs.1.1 k hk),λhk=>ZF.1 (hs.1.2 k hk)⟩;exact⟨h.size,λk hk b=>(h.mem k hk b).trans (e k).symm,hD,λk hk=>h.lt k ((e k).1 hk)⟩
theorem QIx{F:Fence}{fuel:Nat}{hs:List Nat}(hd:Dn ops.length listed done)(hc:QIg ops done hs=true)(i:Nat)(hi:i∈hs)(hr:QEj ops done i=true)(hil:i<ops.length)
  (h:∀i∈hs,∃fuel',fuel=fuel'+1/\wpOpIn F n P ops.toArray Q i (wpAnyIn F n P .any ops.toArray Q fuel' (listed.setIfInBounds i true)) a w):wpAnyIn F n P .any ops.toArray Q fuel listed a w:=by
 obtain⟨f,hf,_⟩:=h i hi;subst hf;refine⟨λh0=>?_,λk hk=>?_⟩
 ·exfalso;have:=QJ1 hd hil hr;rw[h0]at this;cases this
 ·have hcov:k∈hs:=by
   obtain⟨r1,r2,_⟩:=QJ0 hd hk;have:=ze.1 hc k (xd.2 r2);rw[r1]at this;simp only[vw,ul]at this;exact ZF.1 this
  obtain⟨f3,e3,h3⟩:=h k hcov;obtain rfl:f=f3:=by omega
  exact h3
theorem QI.fin(hti:QU P ti)(T:Tr)(hB:(QIg ops done T.heads&&QDO ops done T&& !T.isNil)=true)(h:evC P ti N ops K T σ):QI P ti N ops done σ K:=by
 simp only[zf,wx]at hB;obtain⟨⟨b1,b2⟩,b3⟩:=hB;refine⟨λκ g a w hst Q hQ fuel listed hd hf=>?_⟩;have hs:=QIh (N:=N) hti hQ T T done b2 (λ_ _=>trivial) fuel listed σ g a w hd hf h hst;cases T with
 |nil=>cases b3
 |cons i s r=>
  simp only[QDO,zf,yc]at b2;exact QIx hd b1 i zo b2.1.1.1.2 b2.1.1.1.1 hs
theorem ZG.of_D(h:QI P ti N ops [] σ K):ZG P ti N ops σ K:=
 ⟨λκ g a w hst Q hQ _=>h.run κ g a w hst Q hQ ops.length _ ⟨by simp,λk hk b=>by simp[Array.getD,hk],w9,λk hk=>by cases hk⟩ (by simp)⟩
def QIy(id:Nat):Code->Option (List Oper)
 | .region i ops _=>bif Nat.beq i id then some ops.toList else none
 | .loop c=>QIy id c
 | .seq a b=>match QIy id a with|some c=>some c|none=>QIy id b
 | .cond _ a b=>match QIy id a with|some c=>some c|none=>QIy id b
 | .block _ c=>QIy id c
 | .scope c=>QIy id c
 |_=>none
def QQk(id:Nat)(c:Code):List Oper:=match QIy id c with|some l=>l|none=>[]
theorem FnC.of{c:Code}{args:List AV}{r:AV}(hti:QU P ti)(hi:FnI P f N rs c)(hr:r.isP=true)(h:vc P ti N c (fin ti rs (· =r)) ⟨idx 0 args,[],0⟩)
  (ha:args.all AV.isP=true:=by exact rfl) (hl:args.length<=N:=by exact yg rfl):FnC P f args r:=by
 obtain⟨⟨fn,h1,h2,h3,h4⟩,h5⟩:=hi;subst h4;exact FnC.intro hti h1 h2 h3 h5 ha hl hr h
theorem FnH.of{cd:Code}{args:List AV}{st:List Nat}{r:AV}(hti:QU P ti)(hi:FnI P f N rs cd)(h:∀T,vc P ti N cd (QSc ti N rs n st T r post) ⟨idx 0 args,pre++Qr n st T,n+1+st.length⟩)
  (ha:args.all (AV.lt n)=true:=by exact rfl) (hp:pre.all (λp=>Nat.blt p.1 n&&p.2.lt n&&p.2.pl)=true:=by exact rfl) (hq:post.all (λp=>Nat.blt p.1 m&&p.2.lt m&&p.2.pl)=true:=by exact rfl) (hnm:n<=m:=by decide) (hrl:r.lt m=true:=by exact rfl) (hs:st.all (λk=>Nat.blt k n&&QCF k pre)=true:=by exact rfl)
  (hqt:post.all (λp=>p.2.nt st p.1)=true:=by exact rfl) (hrt:r.nt st=true:=by exact rfl) (hlen:Nat.ble args.length N=true:=by exact rfl):FnH P f args pre n st r post m:=by
 obtain⟨⟨fn,h1,h2,h3,h4⟩,h5⟩:=hi;subst h4;exact FnH.intro hti h1 h2 h3 h5 ha hp hq hnm hrl hs hqt hrt hlen h
theorem CallI.h{args:List AV}{st:List Nat}{r:AV}(hC:FnH P f args pre n st r post m)(ns:List Nat)
  (h:K (S.put ⟨QCl (usL st 0 ns) σ.sl,YC (phi ns n σ.nx) post++(J0 ns++Y7 (usL st 0 ns) ns (st.map (XT ns)) σ.mem σ.mem),σ.nx+m⟩ o.dst (r.ren (phi ns n σ.nx))))
  (hl:l=args.map (AV.ren (XT ns)):=by with_unfolding_all exact rfl) (hn:ns.length=n/\ns.Nodup/\ns.all (λq=>Nat.blt q σ.nx)=true:=by exact⟨rfl,by decide,by with_unfolding_all exact rfl⟩)
  (hpre:ZT σ.mem (YC (XT ns) pre):=by first|((repeat' (first|exact trivial|refine And.intro rfl ?_));done)|fail):CallI P N o σ f l K:=CallI.byH hC ns hl hn hpre rfl rfl h
theorem CallI.hp{args:List AV}{st:List Nat}{r:AV}(hC:FnH P f args pre n st r post m)(ns:List Nat)
  (h:K (S.put ⟨QCl (usL st 0 ns) σ.sl,YC (phi ns n σ.nx) post++(J0 ns++Y7 (usL st 0 ns) ns (st.map (XT ns)) σ.mem σ.mem),σ.nx+m⟩ o.dst (r.ren (phi ns n σ.nx))))
  (hlA:QEo l (args.map (AV.ren (XT ns))):=by first|((repeat' (first|exact trivial|refine And.intro (.inl rfl) ?_|refine And.intro (.inr (by with_unfolding_all exact rfl)) ?_));done)|fail) (hn:ns.length=n/\ns.Nodup/\ns.all (λq=>Nat.blt q σ.nx)=true:=by exact⟨rfl,by decide,by with_unfolding_all exact rfl⟩)
  (hpre:ZT σ.mem (YC (XT ns) pre):=by first|((repeat' (first|exact trivial|refine And.intro rfl ?_));done)|fail):CallI P N o σ f l K:=CallI.byHp hC ns hlA hn hpre rfl rfl h
theorem cEk{K:AV->Prop}{B:Prop}{r:AV}(h:FnC P f l r)(k:K r):CallE (ZK P f l K) B:=CallE.con ⟨r,h,k⟩
theorem cPk{K:AV->Prop}{r:AV}(h:FnC P f l r)(k:K r):ZK P f l K:=⟨⟨r,h,k⟩⟩
theorem QH{st:List Nat}{T:Nat->Nat}{r:AV}(h1:match Yb ti rs σ with|some l=>Yi l=r|none=>False:=by exact rfl)
  (h2:ZT σ.mem post:=by first|((repeat' (first|exact trivial|refine And.intro rfl ?_));done)|fail) (h3:ZT σ.mem (Qr n st T):=by first|((repeat' (first|exact trivial|refine And.intro rfl ?_));done)|fail):
  ∃τ,Wk N σ τ/\(match Yb ti rs τ with|some l=>Yi l=r|none=>False)/\ZT τ.mem post/\ZT τ.mem (Qr n st T):=Qd h1 h2 h3
theorem Wk.e(h1:ZT σ.sl τ.sl:=by first|((repeat' (first|exact trivial|refine And.intro rfl ?_));done)|fail)(h2:ZT σ.mem τ.mem:=by first|((repeat' (first|exact trivial|refine And.intro rfl ?_));done)|fail)(h3:τ.ok=true:=by exact rfl):Wk N σ τ:=Wk.en ⟨h1,h2,h3⟩
theorem Wk.r(φ:Nat->Nat)(h1:ZT σ.sl (QIp φ τ.sl):=by first|((repeat' (first|exact trivial|refine And.intro rfl ?_));done)|fail)(h2:ZT σ.mem (QQi φ τ.mem):=by first|((repeat' (first|exact trivial|refine And.intro rfl ?_));done)|fail)(h3:QUA φ τ.mem=true:=by exact rfl)(h4:τ.ok=true:=by exact rfl):Wk N σ τ:=Wk.ren φ h1 h2 h3 h4
theorem rr(h:p:=by first|((repeat' (first|exact trivial|refine And.intro rfl ?_));done)|fail):p:=h
theorem wu(h:p:=by with_unfolding_all exact rfl):p:=h
theorem om(h:p:=by omega):p:=h
theorem dkk(h:p:=by decide+kernel):p:=h
theorem cXk{r:AV}{q:Prop}(hC:FnC P f l r)(k:q)(h:FnC P f l r->q->p:=by intro a b;first|exact cEk a b|exact cPk a b):p:=h hC k
theorem rF{r:AV}(h:FnC P f l' r)(k:K (σ.put o.dst r))(hA:ArF σ.mem l l')(hr:r.flatP=true:=by with_unfolding_all exact rfl):CallI P N o σ f l K:=CallI.byR (Jj.mkF ⟨l',r,hA,h,hr,k⟩)
theorem rR{mem:List (Nat×Ob)}{K:AV->Prop}{r:AV}(h:FnC P f l' r)(k:K r)(hA:ArF mem l l')(hr:r.flatP=true:=by with_unfolding_all exact rfl):Jj P mem f l K:=Jj.mkF ⟨l',r,hA,h,hr,k⟩
end
variable {x:Operand}
variable {tp:List D}
section
variable {P:Program} {ti:Nat->Option Ty} {N:Nat} {σ:S} {o:Oper} {K:S->Prop}
def QAc(l:List (List D×D))(x:List D)(v:D):List (List D×D):=match ZU l x with
 |some _=>QKB l (QAb l x) v
 |none=>l++[(x,v)]
theorem OpX.mapUpdateA{kk:Nat}{i y:Operand}{kx:List D}{vx:D}{l l2:List (List D×D)}(hop:o.op= .mapUpdate t x i y)(hno:o.dst=none)(ht:P.underlying t=some (.map ke ee))(hF:Y8 P ke tp)
  (hx:ρ σ.sl x=some (.mp n)) (hm:look n σ.mem=some (.mp true true tp l)) (hi:ρ σ.sl i=some (.dg kk kx)) (hl:Q1 tp kx=true) (hy:ρ σ.sl y=some (.d vx)) (hl2:QAc l kx vx=l2)
  (hK:K ⟨σ.sl,(n,.mp true true tp l2)::σ.mem,σ.nx⟩):OpX P N o σ K:=by
 refine⟨λhdN κ g a w hst next Q hn=>?_⟩;subst hl2;have hx':=ρ_ok hst.sl hx;generalize ha:a.eval x=p at hx';have hob:=hst.inv.obs n _ hm;have hh:g.has n=true:=hob.1 rfl;cases hx' with|mp _ q0 hq0=>?_
 rw[hh,if_pos rfl]at hq0;subst hq0;have hi':=ρ_ok hst.sl hi;generalize hb:a.eval i=q at hi';have hkey:=QLP hi' hl;have hy':=ρ_ok hst.sl hy;generalize hc:a.eval y=s at hy';cases hy' with|d _ _ hy'=>?_
 obtain⟨es,ck,h1,h2,h4⟩:=ZQ.rel hob hh;have hlt:g.blk n<w.heap.size:=(un.1 h1).1;have key:∃o',(execOp a.eval o).run P w= .ok .skip (w.putObj (g.blk n) o')/\Zv κ g (w.putObj (g.blk n) o') n (.mp true true tp (QAc l kx vx)):=by
  rcases hF.find hkey w l es.toList h2 with⟨a1,a2⟩|⟨z',e',a1,a2,a3,a4,a5⟩
  ·have hadd:QAc l kx vx=l++[(kx,vx)]:=by unfold QAc;rw[a1]
   refine⟨.map (es.push {key:=q,val:=s,born:=ck}) (ck+1),?_,hadd▸ZQ.of_rel hh (uk hlt) (by rw[Array.toList_push];exact QIu hkey hy' h2) h4.1 (h4.2.push _ _)⟩;simp[execOp,hop,ha,hb,hc,Instr.mapUpdate,run_underlying ht,wn h1,hF.chk _ _ _ hkey,a2,jb _ h1,Result.andThen,World.putObj]
  ·have hadd:QAc l kx vx=QKB l (QAb l kx) vx:=by unfold QAc;rw[a1]
   have hj:es[QAb l kx]? =some e':=by simpa using a3
   refine⟨.map (es.modify (QAb l kx) λe=> {e with key:=q,val:=s}) ck,?_,hadd▸ZQ.of_rel hh (uk hlt) ?_ h4.1 (h4.2.modify _ _ λ_=>rfl)⟩
   ·simp [execOp,hop,ha,hb,hc,Instr.mapUpdate,run_underlying ht,wn h1,hF.chk _ _ _ hkey,a2,hj,a4,QMG hkey,jb _ h1,Result.andThen,World.putObj]
   ·have hm2:(es.modify (QAb l kx) λe=> {e with key:=q,val:=s}).toList=es.toList.set (QAb l kx) {e' with val:=s}:=by
     rw[Vg,Wp _ _ _ _ (by simpa using a3),<-a4]
    rw[hm2];exact QIv hy' _ _ h2 (by simpa using a3)
 obtain⟨o',hrun,hob'⟩:=key;refine Yx hrun (hn g _ _ _ hK ?_);rw[hno];exact⟨hst.size,hst.defers,hst.sl,hst.inv.reMap hm hh hob',by
  refine S.ok_iff.2 ⟨(S.ok_iff.1 hst.ok).1,λp hp=>?_⟩;rcases zi.1 hp with rfl|hp
  ·exact ⟨(S.ok_mem hst.ok hm).1,rfl⟩
  ·exact S.ok_memAll hst.ok p hp⟩
theorem OpX.lookupOk{i:Operand}{dsc:TypeDesc}{kx r zd:D}{zv:Value}{b ok:Bool}{l:List (List D×D)}(hop:o.op= .lookup t x i true)(hd:o.dst=some d)(ht:P.underlying t=some (.map ke ee))(hke:P.underlying ke=some dsc)(hT:QIn dsc tp=true)
  (hz:∀w,(zeroValue ee).run P w= .ok zv w) (hzd:∀F,DR F zd zv) (hx:ρ σ.sl x=some (.mp n)) (hm:look n σ.mem=some (.mp b false tp l)) (hi:ρ σ.sl i=some (.d kx)) (hl:Q1 tp [kx]=true) (hr:(match ZU l [kx]with|some v=>(v,true)|none=>(zd,false))=(r,ok))
  (hK:K ⟨(d,.tup [.d r,.d (.bl ok)])::σ.sl,σ.mem,σ.nx⟩):OpX P N o σ K:=by
 refine⟨λhdN κ g a w hst next Q hn=>?_⟩;have hx':=ρ_ok hst.sl hx;generalize ha:a.eval x=p at hx';cases hx' with|mp _ q hq=>?_
 have hi':=ρ_ok hst.sl hi;generalize hb:a.eval i=q at hi';cases hi' with|d _ _ hi'=>?_
 have hkey:Xz g.F false tp [kx] q:=⟨hl,by rw[if_neg (by decide)];exact⟨kx,rfl,hi'⟩⟩;have hik:=Jn hT hkey;have hob:=hst.inv.obs n _ hm;have key:∃v,(execOp a.eval o).run P w= .ok (.value (.tuple #[v,.bool ok])) w/\DR g.F r v:=by
  cases hh:g.has n with
  |false=>
   rw[hh,if_neg (by decide)]at hq;subst hq;have hl0:=hob.2.1 hh;subst hl0;have hr:(zd,false)=(r,ok):=hr;obtain⟨hr1,hr2⟩:=jn hr;subst hr2;refine⟨zv,?_,hr1▸hzd _⟩;have hf:(Instr.findKey ke q []).run P w= .ok none w:=v7 hke rfl;simp[execOp,hop,ha,hb,Instr.lookup,run_underlying ht,vv hke hik,hf,hz,Result.andThen]
  |true=>
   rw[hh,if_pos rfl]at hq;subst hq;obtain⟨es,ck,h1,h2,h4⟩:=ZQ.rel hob hh;rcases QCH hT hkey l es.toList 0 h2 with⟨a1,a2,_⟩|⟨z',j,e',a1,a2,_,_,a5,_⟩
   ·rw [a1]at hr;have hr:(zd,false)=(r,ok):=hr;obtain⟨hr1,hr2⟩:=jn hr;subst hr2;refine⟨zv,?_,hr1▸hzd _⟩;simp[execOp,hop,ha,hb,Instr.lookup,run_underlying ht,wn h1,vv hke hik,v7 hke a2,hz,Result.andThen]
   ·rw [a1]at hr;have hr:(z',true)=(r,ok):=hr;obtain⟨hr1,hr2⟩:=jn hr;subst hr2;refine⟨e'.val,?_,hr1▸a5⟩;simp[execOp,hop,ha,hb,Instr.lookup,run_underlying ht,wn h1,vv hke hik,v7 hke a2,Result.andThen]
 obtain⟨v,hrun,hv⟩:=key;refine Qc hrun (hn g _ _ _ hK ?_);rw[hd];refine hst.put (hdN _ hd) (Ext.refl _ _) hst.inv (.tup _ _ rfl λj hj=>?_) (S.ok_cons hst.ok (zt _) rfl (S.ok_memAll hst.ok))
 match j,hj with
 |0,_=>exact .d _ _ hv
 |1,_=>exact .d _ _ (.bl _)
end
section
variable {P:Program} {ti:Nat->Option Ty} {N:Nat}
def QSh(P:Program)(ti:Nat->Option Ty)(N:Nat)(ops:List Oper)(done:List Nat)(K:S->Prop):List Nat->S->Prop
 |[],_=>True
 |i::hs,σ=>Br (match ops[i]? with
  |some o=>Zp P ti N ops [o] σ λσ'=>QI P ti N ops (i::done) σ' K
  |none=>False) (QSh P ti N ops done K hs σ)
theorem QLS{ops:List Oper}{done:List Nat}{K:S->Prop}{σ:S}:∀ {hs:List Nat},QSh P ti N ops done K hs σ->∀i∈hs,∃o,ops[i]? =some o/\Zp P ti N ops [o] σ λσ'=>QI P ti N ops (i::done) σ' K
 |[],_,i,hi=>by cases hi
 |j::hs,h,i,hi=>by
  obtain⟨h1,h2⟩:=h;rcases zi.1 hi with rfl|hi
  ·cases ho:ops[i]? with
   |none=>rw[ho]at h1;exact h1.elim
   |some o=>rw[ho]at h1;exact⟨o,rfl,h1⟩
  ·exact QLS h2 i hi
theorem QI.alt(hti:QU P ti)(hs:List Nat)(hB:(QIg ops done hs&&hs.all (λi=>Nat.blt i ops.length&&QEj ops done i)&& !hs.isEmpty)=true)(h:QSh P ti N ops done K hs σ):QI P ti N ops done σ K:=by
 simp only[zf,wx,ze,yc]at hB;obtain⟨⟨b1,b2⟩,b3⟩:=hB;refine⟨λκ g a w hst Q hQ fuel listed hd hf=>?_⟩;have key:∀j∈hs,∃fuel',fuel=fuel'+1/\wpOpIn (wd κ.rd) 0 P ops.toArray Q j (wpAnyIn (wd κ.rd) 0 P .any ops.toArray Q fuel' (listed.setIfInBounds j true)) a w:=by
  intro j hj;obtain⟨b4,b5⟩:=b2 j hj;obtain⟨o,ho,he⟩:=QLS h j hj;have hid:j∉done:=λh=>by unfold QEj at b5;rw[ZF.2 h]at b5;simp at b5
  have hnd:(j::done).Nodup:=vo.2 ⟨hid,hd.nd⟩;have hltd:∀k∈j::done,k<ops.length:=λk hk=>by
   rcases zi.1 hk with rfl|hk
   ·exact b4
   ·exact hd.lt k hk
  have hlen:=QCi ops.length (j::done) hnd hltd;simp only[yq]at hlen;obtain⟨fuel',rfl⟩:∃f,fuel=f+1:=⟨fuel-1,by omega⟩;refine⟨fuel',rfl,?_⟩;refine QBX hti ho he hst λg' σ' a' w' hK hst'=>?_;have hd':Dn ops.length (listed.setIfInBounds j true) (j::done):=by
   refine⟨by simp[hd.size],λk hk b=>?_,hnd,hltd⟩;by_cases hjk:j=k
   ·subst hjk;rw[Qm b (by rw[hd.size];exact hk)];simp
   ·rw [getD_set_ne b hjk,hd.mem k hk b,zi];exact⟨.inr,λh=>h.resolve_left (vb hjk)⟩
  have hK':QI P ti N ops (j::done) σ' K:=hK;exact hK'.run κ g' a' w' hst' Q hQ fuel' _ hd' (by simp only[yq];omega)
 cases hs with
 |nil=>cases b3
 |cons i s=>exact QIx hd b1 i zo (b2 i zo).2 (b2 i zo).1 key
theorem QI.tow{D:List Nat}(h:QI P ti N ops D τ K)(hB:(QIw D done&&QOl D)=true)(hw:Wk N σ τ):QI P ti N ops done σ K:=by
 simp only[zf]at hB;refine⟨λκ g a w hst Q hQ fuel listed hd hf=>?_⟩;obtain⟨g2,hst2⟩:=hw.run κ g a w hst;have hl:D.length=done.length:=by
  have:=hB.1;simp only[QIw,zf]at this;exact zh this.2
 exact h.run κ g2 a w hst2 Q hQ fuel listed (hd.same (QLR hB.2) hB.1) (by omega)
end
section
variable {P:Program} {ti:Nat->Option Ty} {N:Nat} {mem:List (Nat×Ob)}
theorem QSi{κ:Ctx}{g:Gh}(hi:Inv κ g mem w){F:Nat->Nat->Option Value}(hF:∀b o v,g.F b o=some v->F b o=some v)(hO:∀n,On g mem n->∀o,F (g.blk n) o=w.cell? ⟨g.blk n,o,none⟩){ds:List D}(h:FrA mem l ds):ds.length=l.length/\∀(f:Nat->Value),(∀j (h:j<l.length),AVR g l[j] (f j))->∀j (h:j<ds.length),DR F ds[j] (f j):=by
 have step:∀ {v:AV} {x:D} {t:List AV} {l:List D},(∀u,AVR g v u->DR F x u)->(l.length=t.length/\∀(f:Nat->Value),(∀j (h:j<t.length),AVR g t[j] (f j))->∀j (h:j<l.length),DR F l[j] (f j))->
   ((x::l).length=(v::t).length/\∀(f:Nat->Value),(∀j (h:j<(v::t).length),AVR g (v::t)[j] (f j))->∀j (h:j<(x::l).length),DR F (x::l)[j] (f j)):=by
  intro v x t l hx ⟨h1,h2⟩;refine⟨by simp[h1],λf hf j hj=>?_⟩;cases j with
  |zero=>exact hx _ (hf 0 (by simp))
  |succ j=>exact h2 (λj=>f (j+1)) (λj hj=>hf (j+1) (by simpa using hj)) j (by simpa using hj)
 induction h with
 |nil=>exact⟨rfl,λ_ _ j hj=>by cases hj⟩
 |pl v x t l h k ih=>
  refine step (λu hu=>?_) ih;obtain⟨_,f2⟩:=QAh (g:=g) h;exact(f2 (λ_=>u) (λi hi'=>by
   have:i=0:=by simp at hi';omega
   subst this;exact hu) 0 (by simp)).mono hF
 |vx sz n len ty es f t l h hl k ih=>
  refine step (λu hu=>?_) ih;cases hu with|vx _ _ _ _ ad c hc had=>?_
  by_cases h0:len=0
  ·subst h0;obtain rfl:=yx.1 hl;exact .fs0 _ _ _
  ·obtain ⟨q1,q2,q3⟩:=had.pos (by omega);subst q2;obtain⟨v1,v2,v3⟩:=hi.obs n _ h;obtain⟨arr,w1,w2,w3,w4,w5,w6,w7⟩:=v3 q1;have hon:On g mem n:=by unfold On;rw[h];exact q1
   have e0:g.hi n+0*sz=g.hi n:=by omega
   rw[e0];refine .fs _ _ _ _ _ _ (λi j=>arr.getD (g.hi n+i*sz+j) undef) hl hc (λi hi=>v1 _ (zm hi)) (λi j hi' hj=>?_) λi hi' j hj=>(w4 i hi' j hj).mono hF;have hm1:i*sz+sz<=len*sz:=by
    have:(i+1)*sz<=len*sz:=zw _ (by omega);rw[z2]at this;omega
   rw[hl]at w3;have:g.hi n+i*sz+j<arr.size:=by omega
   rw[hO n hon];simp[World.cell?,w1,Array.getD,this]
 |fp n off k size c ds t l h hle hlen hd ht ihd iht=>
  refine step (λu hu=>?_) iht;obtain⟨arr,T,e1,e2,e3,e4,e5,e6⟩:=hi.obs n _ h;have hon:On g mem n:=by unfold On;rw[h];trivial
  cases hu;refine .fp _ _ _ _ (λj=>arr.getD (off+j) undef) hlen (λj hj=>?_) λj hj=>?_
  ·have:off+j<arr.size:=by omega
   rw[hO n hon];simp[World.cell?,e1,Array.getD,this]
  ·refine ihd.2 (λj=>arr.getD (off+j) undef) (λi hi'=>?_) j hj;have hi2:i<k/\off+i<c.length:=by
    rw[zy,ym]at hi';omega
   have e:((c.drop off).take k)[i]=c[off+i]:=by rw[xl,xm]
   rw[e];exact e5 _ hi2.2
theorem QOm{α:Type}{k:Nat}:∀ {l m:List (Nat×α)} {x:α},look k (l++m)=some x->(∃p∈l,p=(k,x))\/look k m=some x
 |[],m,x,h=> .inr h
 |(j,y)::l,m,x,h=>by
  rw[qe,QC]at h;split at h
  ·rename_i e;have e':j=k:=by first|exact e|exact e.symm
   rw[<-za h,<-e'];exact .inl ⟨_,zo,rfl⟩
  ·rcases QOm h with⟨p,h1,h2⟩|h1
   ·exact .inl ⟨p,zk _ h1,h2⟩
   ·exact .inr h1
theorem Wk.frA(ks:List Nat){u:AV}{x:D}(l:List (Nat×AV))(m:Nat)(hu:ZT σ.sl (ks.map λk=>(k,u)))(h:FrA σ.mem [u] [x])(hl:ZT σ.sl l)(hp:l.all (λp=>p.2.isP)=true):Wk N σ ⟨(ks.map λk=>(k,AV.d x))++l,[],m⟩:=by
 refine⟨λκ g a w hst=>?_⟩;have hi:=hst.inv;let F:Nat->Nat->Option Value:=λb o=>if κ.w0.heap.size<=b\/b∈κ.mod then w.cell? ⟨b,o,none⟩else g.F b o
 have hF:∀b o v,g.F b o=some v->F b o=some v:=λb o v hv=>by
  show(if _ then _ else _)=_;split
  ·exact hi.frz _ _ _ hv
  ·exact hv
 have hO:∀n,On g σ.mem n->∀o,F (g.blk n) o=w.cell? ⟨g.blk n,o,none⟩:=λn hn o=>if_pos (hi.own n hn);have hx:=QSi hi hF hO h;have hpl:∀p∈l,p.2.isP=true:=λp hp'=>by have:=ze.1 hp p hp';exact this
 refine⟨{g with F:=F},hst.size,hst.defers,λk' v hk'=>?_,⟨λb o v hv=>?_,λn o ho=>(by cases ho),λn n' _ (hn:False)=>hn.elim,hi.size,hi.pres,λn (hn:False)=>hn.elim,λb o v hv=>hF _ _ _ (hi.f0 _ _ _ hv),λb o v hv=>?_,hi.os,hi.tape,hi.output,hi.dfr⟩,?_⟩
 ·rcases QOm hk' with⟨p,h1,rfl⟩|h1
  ·obtain ⟨k,hk,e⟩:=yf.1 h1;obtain⟨rfl,rfl⟩:=jn e;have hku:look k σ.sl=some u:=QCI hu (yf.2 ⟨k,hk,rfl⟩);exact .d _ _ (hx.2 (λ_=>a.tmps.getD k undef) (λj hj=>by
    have:j=0:=by simp at hj;omega
    subst this;exact hst.sl _ _ hku) 0 (by simp))
  ·exact Zw hF (hpl _ (Qb h1)) (hst.sl _ _ (QCI hl (Qb h1)))
 ·have hv:(if _ then _ else _)=some v:=hv;split at hv
  ·exact hv
  ·exact hi.frz _ _ _ hv
 ·have hv:(if _ then _ else _)=some v:=hv;split at hv
  ·rename_i h2;exact .inr h2
  ·exact hi.fnew _ _ _ hv
 ·refine S.ok_iff.2 ⟨λp hp'=>?_,λp hp'=>by cases hp'⟩;rcases yd.1 hp' with hp'|hp'
  ·obtain ⟨k,_,rfl⟩:=yf.1 hp';rfl
  ·exact QAN (hpl _ hp') _
end
end Go.Sy
