/- A computing verification layer for data, proved sound over the library: what a body comes to, by its literal code. Conditions: none. -/
import Derived.Test.YtikgcbioagmkkaaGreatDoorSD
set_option maxRecDepth 100000
set_option linter.all false
namespace Go.Sy
section
variable {P:Program} {ti:Nat→Option Ty} {N:Nat} {F:Fence} {n:Nat}
theorem QC2{ops:Array Oper}{Q:Exit→Act→World→Prop}{i:Nat}{o:Oper}{v:Value}(hi:ops[i]? =some o)(hd:∀c,o.op≠ .defer c)(hb:∀w ev,o.about P w ev=none)(hg:o.guard=none){K:Act→World→Prop}{a:Act}{w:World}(hv:YV P o v a)(h:K (a.put o.dst v) w):wpOpIn F n P ops Q i K a w:=by
 unfold Go.wpOpIn
 simp only[hi]
 rw[if_pos (Z4 hg)]
 refine⟨fun f hf=>?_,?_⟩
 ·rw [hb]at hf;cases hf
 ·rw [uo _ _ _ hd,hv w]
  exact h
theorem QG2{ops:Array Oper}{Q:Exit→Act→World→Prop}{md:Region.Mode}{i:Nat}{oi:Oper}{v:Value}(hi:ops[i]? =some oi)(hs:∀cs b,oi.op≠ .select cs b)(hd:∀c,oi.op≠ .defer c)(hb:∀w ev,oi.about P w ev=none)(hg:oi.guard=none)
  (hsel:∀(j:Nat) (o:Oper),ops[j]? =some o→(∀cs b,o.op≠ .select cs b)∧∀c,o.op≠ .defer c) (hQ:∀c a w,¬Q (.panic c) a w):
  ∀(fuel:Nat) (listed:Array Bool) (a:Act) (w:World),YV P oi v a→
   (∀j oj,ops[j]? =some oj→j≠i→listed.getD j true=false→(∀e∈oj.after,Region.binds md e=true→e.on≠i)→oi.apart ops oj=true)→
   i∈Region.ready md ops listed→
   wpAnyIn F n P md ops Q fuel (listed.setIfInBounds i true) (a.put oi.dst v) w→wpAnyIn F n P md ops Q (fuel+1) listed a w:=by
 intro fuel
 induction fuel with
 |zero=>
  intro listed a w hv _ hr H
  refine⟨fun h=>(by rw[h]at hr;cases hr),fun j hj=>?_⟩
  by_cases hji:j=i
  ·subst hji;exact QC2 hi hd hb hg hv H
  ·have:=ready_mono hj hji
   rw[H.1]at this
   cases this
 |succ fuel ih=>
  intro listed a w hv hfree hr H
  refine⟨fun h=>(by rw[h]at hr;cases hr),fun j hj=>?_⟩
  by_cases hji:j=i
  ·subst hji;exact QC2 hi hd hb hg hv H
  ·have h1:=H.2 j (ready_mono hj hji)
   obtain⟨hjun,oj,hoj,hall⟩:=mem_ready.1 hj
   have hnot:∀e∈oj.after,Region.binds md e=true→e.on≠i:=fun e he hb heq=>by
    have h1:=hall e he hb
    have h0:=(mem_ready.1 hr).1
    rw[heq]at h1
    rcases yh i listed.size with h'|h'
    ·simp [h']at h0 h1;rw[h0]at h1;cases h1
    ·simp [xh h']at h1
   have h2:=QC1 hoj hs (hfree j oj hoj hji hjun hnot) (hsel j oj hoj).1 (hsel j oj hoj).2 hQ hv h1
   have hfree':∀k ok,ops[k]? =some ok→k≠i→(listed.setIfInBounds j true).getD k true=false→
     (∀e∈ok.after,Region.binds md e=true→e.on≠i)→oi.apart ops ok=true:=fun k ok hk hki hun hno=>by
    refine hfree k ok hk hki ?_ hno
    by_cases hjk:j=k
    ·subst hjk;exact hjun
    ·rw [getD_set_ne true hjk]at hun;exact hun
   refine wpOpIn_mono (fun a' w' ⟨h3,hv'⟩=>ih (listed.setIfInBounds j true) a' w' hv' hfree' (ready_mono hr (w8 hji)) ?_) h2
   rw[jj _ _ hji]
   exact h3
def QTJ:Op→Bool
 | .binOp .add .. | .binOp .sub .. =>true
 | .call c=>match c.callee with
  | .builtin .len=>true
  |_=>false
 |o=>QRq o
def QAh(N:Nat)(ops:List Oper)(h:Nat):Bool:=
 match ops[h]? with
 |some o=>QTJ o.op&&(match o.guard with|none=>true|some _=>false)&&(match o.dst with|some d=>Nat.blt d N|none=>false)&&o.after.toList.all (fun e=> !Region.binds .any e)&&ops.all (fun o=>QJe o.op&&QAt h o)&&
   Region.free .any ops.toArray (Array.replicate ops.length false) h
 |none=>false
theorem ZG.hoistM{ops:List Oper}{σ:S}{K:S→Prop}{h d:Nat}{v:AV}{o:Oper}(ho:ops[h]? =some o)(hg:o.guard=none)(b3:(match o.dst with|some d=>Nat.blt d N|none=>false)=true)
  (b4:(o.after.toList.all (fun e=> !Region.binds .any e))=true) (b5:(ops.all (fun o=>QJe o.op&&QAt h o))=true) (b6:Region.free .any ops.toArray (Array.replicate ops.length false) h=true)
  (hn1:∀cs b,o.op≠ .select cs b) (hn2:∀c,o.op≠ .defer c) (hab:∀w ev,o.about P w ev=none)
  (hd:o.dst=some d) (hlt:σ.ok=true→v.lt σ.nx=true) (hY:∀κ g a w,St κ N g σ a w→∃u,YV P o u a∧AVR g v u) (hK:ZG P ti N (Q5 h h ops) ⟨(d,v)::σ.sl,σ.mem,σ.nx⟩ K):ZG P ti N ops σ K:=by
 have hdN:d<N:=by rw[hd]at b3;simpa using b3
 have hhl:h<ops.length:=(z6.1 ho).1
 have ho':ops.toArray[h]? =some o:=by simpa using ho
 have hall:∀(j:Nat) (o':Oper),ops[j]? =some o'→QJe o'.op=true∧QAt h o'=true:=fun j o' hj=>by
  have:=ze.1 b5 o' (yj hj)
  simpa using this
 refine⟨fun κ g a w hst Q hQ hP=>?_⟩
 obtain⟨u,hyv,hav⟩:=hY κ g a w hst
 have hst1:St κ N g ⟨(d,v)::σ.sl,σ.mem,σ.nx⟩ (a.put o.dst u) w:=by
  rw[hd]
  exact hst.put hdN (.refl _ _) hst.inv hav (S.ok_cons hst.ok (zt _) (hlt hst.ok) (S.ok_memAll hst.ok))
 have h1:=hK.run κ g _ w hst1 Q hQ hP
 have hdl:=QDS (h:=h) h ops hhl
 obtain⟨m,hm⟩:∃m,ops.length=m+1:=⟨ops.length-1,by omega⟩
 have hdm:(Q5 h h ops).length=m:=by omega
 rw[hdm]at h1
 rw[hm]
 refine QG2 ho' hn1 hn2 hab hg (fun j o' hj=>?_) hP m _ a w hyv ?_ ?_ ?_
 ·have:=(hall j o' (by simpa using hj)).1
  refine⟨fun cs b hq=>?_,fun c hq=>?_⟩<;>rw[hq]at this<;>cases this
 ·intro j oj hj hne hun hno
  have:=Wb ho' b6 j oj hj hne (by rw[hm];exact hun) hno
  exact this
 ·refine mem_ready.2 ⟨by simp[Array.getD];omega,o,ho',fun e he hb=>?_⟩
  have:=ze.1 b4 e (by simpa using he)
  rw[hb]at this;cases this
 ·refine QGt (h:=h) (fun j o' hj i c hgc hih=>?_) m _ _ _ w ?_ ?_ ?_ h1
  ·have:=(hall j o' hj).2
   unfold QAt at this
   rw[hgc]at this
   simp only[hih,x8,vz]at this
   cases this
  ·intro i b
   rw[getD_set_ne b (w8 (QN8 h i))]
   by_cases hi:i<m
   ·have:up h i<m+1:=by
     unfold up
     by_cases hih:i<h
     ·rw [ZR hih,cond_true];omega
     ·rw [XG hih,cond_false];omega
    simp[Array.getD,hi,this]
   ·have:¬up h i<m+1:=by
     unfold up
     by_cases hih:i<h
     ·rw [ZR hih,cond_true];omega
     ·rw [XG hih,cond_false];omega
    simp[Array.getD,hi,this]
  ·exact Qe true (by simp;omega)
  ·exact Qe false (by simp;omega)
def X4(P:Program)(ti:Nat→Option Ty)(ops:List Oper)(h:Nat)(σ:S)(K':S→Prop):Prop:=
 match ops[h]? with
 |some o=>match o.op with
  | .binOp op t x y _=>match o.dst,ρ σ.sl x,ρ σ.sl y with
   |some d,some (.d (.it .i64 a)),some (.d (.it .i64 b))=>QEq op .i64 a b fun z=>K' ⟨(d,.d z)::σ.sl,σ.mem,σ.nx⟩
   |_,_,_=>False
  | .call c=>match c.callee,c.args.toList,o.dst,(c.argTypes[0]?).bind ti with
   | .builtin .len,[x],some d,some ⟨.slice e,_,_,_,_,_⟩=>match (ρ σ.sl x).bind Zs with
    |some (_,es)=>K' ⟨(d,.d (.it .i64 (es.length:Nat)))::σ.sl,σ.mem,σ.nx⟩
    |none=>False
   |_,_,_,_=>False
  |_=>Ya P ti ops h σ K'
 |none=>False
theorem ZG.new(hti:QV P ti){ops:List Oper}{σ:S}{K:S→Prop}(h m:Nat)(hK:QJi P ti N ops h m σ K):ZG P ti N ops σ K:=by
 unfold QJi at hK
 split at hK
 case h_2=>exact hK.elim
 rename_i oh hoh
 split at hK
 case h_2=>exact hK.elim
 rename_i e d hop hd
 split at hK
 case h_2=>exact hK.elim
 rename_i ty hty
 obtain⟨hb,hK⟩:=QZ hK
 simp only[zf]at hb
 obtain⟨hb,hb1,hb2⟩:=hb
 unfold QPw at hb
 split at hb
 case h_2=>cases hb
 rename_i ms d' hms hd' hg
 have hdd:d'=d:=by rw[hd]at hd';exact(za hd').symm
 subst hdd
 simp only[zf]at hb
 obtain⟨⟨⟨⟨c1,c2⟩,c3⟩,c4⟩,c5⟩:=hb
 have hml:=ye c2
 have hhm:h<m:=by simpa using c1
 refine⟨fun κ g a w hst Q hQ _=>?_⟩
 obtain⟨vs,σ',htail,hok',hmem,hnx,hch⟩:=YI hti _ σ hst.ok hK
 rw[hmem,hnx]at htail
 have key:wpAnyIn (wd κ.rd) 0 P .any ops.toArray Q ops.length (Array.replicate ops.length false) a w:=by
  have:=QKi (Q:=Q) hti hoh hop hg hd hty (zh hb1) (by simpa using hb2) hhm (fun o ho=>by
    unfold QRe at c5
    rw[ze]at c5
    have:=c5 o ho
    rw[wv]at this
    intro hmem'
    rw[Q3.2 hmem']at this
    cases this) hms hml (fun i' h1 h2=>YK c4 i' h1 (by omega)) c3 hst.ok hok' hmem hnx hch hQ htail m (List.range m) (Array.replicate ops.length false) g a w
   xl jr (fun k=>by
    rw[y4]
    refine⟨fun hk=>⟨hk,by simp[Array.getD,show k<ops.length by omega]⟩,fun hk=>hk.1⟩) (by simp) (fun k _ hk=>by simp[Array.getD,hk]) (fun k o _ hk=>by simp[Array.getD]at hk)
   (by
    have hf:(Array.replicate ops.length false).getD h false=false:=by simp[Array.getD]
    rw[hf]
    exact⟨hst.size,hst.defers,hst.inv,(fun hl=>by cases hl),fun i d _ hi=>by simp[Array.getD]at hi,fun k v hk _=>hst.sl k v hk⟩)
  rw[show m+(ops.length-m)=ops.length by omega]at this
  exact this
 exact key
theorem QEq.mono{op:BinOp}{k:IntKind}{a b:Int}{A B:D→Prop}(hab:∀z,A z→B z)(h:QEq op k a b A):QEq op k a b B:=by
 cases op<;>simp only[QEq]at h⊢
 all_goals first|exact hab _ h|exact⟨hab _ h.run⟩|exact⟨h.1,⟨hab _ h.2.run⟩⟩
theorem X4.mono{ops:List Oper}{h:Nat}{σ:S}{A B:S→Prop}(hab:∀σ,A σ→B σ)(hk:X4 P ti ops h σ A):X4 P ti ops h σ B:=by
 unfold X4 at hk⊢
 split at hk
 ·split at hk
  ·split at hk
   ·exact QEq.mono (fun z=>hab _) hk
   ·exact hk.elim
  ·split at hk
   ·split at hk
    ·exact hab _ hk
    ·exact hk.elim
   ·exact hk.elim
  ·exact Ya.mono hab hk
 ·exact hk.elim
theorem ZG.hoistW(hti:QV P ti){ops:List Oper}{σ:S}{K:S→Prop}(h:Nat)(hB:QAh N ops h=true)(hK:X4 P ti ops h σ fun σ'=>ZG P ti N (Q5 h h ops) σ' K):ZG P ti N ops σ K:=by
 cases ho:ops[h]? with
 |none=>unfold QAh at hB;rw[ho]at hB;cases hB
 |some o=>
 have hB':=hB
 unfold QAh at hB
 unfold X4 at hK
 rw[ho]at hB hK
 simp only[zf]at hB
 obtain⟨⟨⟨⟨⟨b1,b2⟩,b3⟩,b4⟩,b5⟩,b6⟩:=hB
 have hg:o.guard=none:=by
  cases hq:o.guard with
  |none=>rfl
  |some _=>rw[hq]at b2;cases b2
 simp only at hK
 split at hK
 ·rename_i op t x y t' hop
  split at hK
  ·rename_i d a b hd hx hy
   have hpl:op≠ .shl∧op≠ .shr:=by
    rw[hop]at b1
    refine⟨fun q=>?_,fun q=>?_⟩<;>(subst q;cases b1)
   obtain⟨z,w,hKz,hD,hr⟩:=QDQ (P:=P) hK
   refine .hoistM (v:= .d z) ho hg b3 b4 b5 b6 (fun cs b hq=>by rw[hop]at hq;cases hq) (fun c hq=>by rw[hop]at hq;cases hq) (fun w ev=>by unfold Oper.about;rw[hop]) hd (fun _=>rfl) (fun κ g A W hst=>?_) hKz
   refine⟨w,fun W'=>?_,.d _ _ (hD _)⟩
   have h1:=Q9 (ρ_ok hst.sl hx)
   have h2:=Q9 (ρ_ok hst.sl hy)
   simp only[execOp,hop,h1,h2,zp,Xl op t x y _ _ (.inl ⟨_,_,rfl⟩),zg,hr t .i64 (.inl rfl) W',zq]
  ·exact hK.elim
 ·rename_i c hop
  split at hK
  ·rename_i x d e _ _ _ _ _ hc ha hd ht
   split at hK
   ·rename_i sz es hs
    obtain⟨v,hx,hv⟩:=wx.1 hs
    obtain⟨tt,h0,hty⟩:=wx.1 ht
    obtain⟨cc,xs,ats⟩:=c
    dsimp only at hc ha h0
    obtain⟨xs⟩:=xs
    dsimp only at ha
    subst hc ha
    refine .hoistM (v:= .d (.it .i64 (es.length:Nat))) ho hg b3 b4 b5 b6 (fun cs b hq=>by rw[hop]at hq;cases hq) (fun c hq=>by rw[hop]at hq;cases hq) (fun w ev=>by simp[Oper.about,hop,resolve,Target.leads,zq]) hd (fun _=>rfl) (fun κ g a W hst=>?_) hK
    obtain⟨u,i,ht⟩:=QE (hti _ _ hty)
    obtain rfl:=Qr ht rfl
    refine⟨.int .i64 es.length,fun W'=>?_,.d _ _ (.it _ _)⟩
    have h1:=XQ hv (ρ_ok hst.sl hx)
    have h2:∃ad cap,a.eval x= .slice ad es.length cap:=by
     generalize a.eval x=q at h1
     cases h1 with
     |fs0=>exact⟨_,_,rfl⟩
     |fs _ _ b off len cap vs hl=>subst hl;exact⟨_,_,rfl⟩
    obtain⟨ad,cap,h2⟩:=h2
    rw[QP hop]
    simp[builtin,Builtin.len_,h2,h0,run_underlying ht.und,goInt]
   ·exact hK.elim
  ·exact hK.elim
 ·rename_i hn1 hn2
  refine .hoistV hti h ?_ hK
  unfold QAh at hB'
  unfold QDW
  rw[ho]at hB'⊢
  have:QTJ o.op=QRq o.op:=by
   cases hq:o.op<;>first|rfl|exact absurd hq (hn1 _ _ _ _ _)|exact absurd hq (hn2 _)
  dsimp only at hB'⊢
  rw[this]at hB'
  exact hB'
def hNew(P:Program)(ti:Nat→Option Ty)(N:Nat)(K:S→Prop):List Nat→List Oper→S→Prop
 |[],ops,σ=>QJi P ti N ops (QFm 0 ops) (cut ops) σ K
 |h::hs,ops,σ=>X4 P ti ops h σ fun σ'=>hNew P ti N K hs (Q5 h h ops) σ'
def QKq(N:Nat):List Nat→List Oper→Bool
 |[],ops=>QOE ops
 |h::hs,ops=>QAh N ops h&&QKq N hs (Q5 h h ops)
theorem ZG.hNew(hti:QV P ti){K:S→Prop}:∀(hs:List Nat) (ops:List Oper) (σ:S),QKq N hs ops=true→Sy.hNew P ti N K hs ops σ→ZG P ti N ops σ K
 |[],ops,σ,hB,h=> .new hti _ _ h
 |k::hs,ops,σ,hB,h=>by
  simp only[QKq,zf]at hB
  exact .hoistW hti k hB.1 (X4.mono (fun σ' hk=>ZG.hNew hti hs _ σ' hB.2 hk) h)
theorem QFw(hti:QV P ti)(hm:P.follows .mixedOrders=true){id:Nat}{ops:List Oper}{σ:S}{K:S→Prop}(hs:List Nat)(hB:QKq N hs ops=true)(h:hNew P ti N K hs ops σ):QX P ti N id ops σ K:= .of_A hm (.hNew hti hs ops σ hB h)
def hTreeW(P:Program)(ti:Nat→Option Ty)(N:Nat)(K:S→Prop)(T:Tr):List Nat→List Oper→S→Prop
 |[],ops,σ=>evC P ti N ops K T σ
 |h::hs,ops,σ=>X4 P ti ops h σ fun σ'=>hTreeW P ti N K T hs (Q5 h h ops) σ'
def QDY(N:Nat)(T:Tr):List Nat→List Oper→Bool
 |[],ops=>QE2 ops [] T.heads&&QDE ops [] T&& !T.isNil
 |h::hs,ops=>QAh N ops h&&QDY N T hs (Q5 h h ops)
theorem ZG.hTreeW(hti:QV P ti){K:S→Prop}{T:Tr}:∀(hs:List Nat) (ops:List Oper) (σ:S),QDY N T hs ops=true→Sy.hTreeW P ti N K T hs ops σ→ZG P ti N ops σ K
 |[],ops,σ,hB,h=> .tree hti T hB h
 |k::hs,ops,σ,hB,h=>by
  simp only[QDY,zf]at hB
  exact .hoistW hti k hB.1 (X4.mono (fun σ' hk=>ZG.hTreeW hti hs _ σ' hB.2 hk) h)
theorem ZZ(hti:QV P ti)(hm:P.follows .mixedOrders=true){id:Nat}{ops:List Oper}{σ:S}{K:S→Prop}(hs:List Nat)(T:Tr)(hB:QDY N T hs ops=true)(h:hTreeW P ti N K T hs ops σ):QX P ti N id ops σ K:= .of_A hm (.hTreeW hti hs ops σ hB h)
end
end Go.Sy
namespace Go.Sy
section
variable {P:Program} {ti:Nat→Option Ty} {N:Nat}
def QIb(D done:List Nat):Bool:=D.all (fun k=>Xc k done)&&done.all (fun k=>Xc k D)&&Nat.beq D.length done.length
def QP2:List Nat→Bool
 |[]=>true
 |k::l=> !Xc k l&&QP2 l
theorem QKr:∀ {l:List Nat},QP2 l=true→l.Nodup
 |[],_=>wz
 |k::l,h=>by
  simp only[QP2,zf,wv]at h
  exact vj.2 ⟨fun hk=>(by rw[Q3.2 hk]at h;exact absurd h.1 (by decide)),QKr h.2⟩
def QC3(ops:List Oper)(D:List Nat):List Nat→Tr→Bool
 |_,.nil=>true
 |done,.cons i sub rest=>Nat.blt i ops.length&&QES ops done i&&(bif sub.isNil then QIb D (i::done)else QE2 ops (i::done) sub.heads&&QC3 ops D (i::done) sub)&&QC3 ops D done rest
structure QB4(P:Program)(ti:Nat→Option Ty)(N:Nat)(ops:List Oper)(done:List Nat)(σ:S)(K:S→Prop):Prop where
 run:∀(κ:Ctx) (g:Gh) (a:Act) (w:World),St κ N g σ a w→∀Q:Exit→Act→World→Prop,(∀g' σ' a' w',K σ'→St κ N g' σ' a' w'→Q .normal a' w')→
  ∀(fuel:Nat) (listed:Array Bool),Dn ops.length listed done→fuel+done.length=ops.length→wpAnyIn (wd κ.rd) 0 P .any ops.toArray Q fuel listed a w
theorem Dn.same{m:Nat}{listed:Array Bool}{l D:List Nat}(h:Dn m listed l)(hD:D.Nodup)(hs:QIb D l=true):Dn m listed D:=by
 simp only[QIb,zf,ze]at hs
 have e:∀k,k∈D↔k∈l:=fun k=>⟨fun hk=>Q3.1 (hs.1.1 k hk),fun hk=>Q3.1 (hs.1.2 k hk)⟩
 exact⟨h.size,fun k hk b=>(h.mem k hk b).trans (e k).symm,hD,fun k hk=>h.lt k ((e k).1 hk)⟩
theorem QLg(hti:QV P ti){ops:List Oper}{D:List Nat}{K:S→Prop}{Q:Exit→Act→World→Prop}{κ:Ctx}(hD:D.Nodup)
  (H:∀g σ a w fuel listed,K σ→St κ N g σ a w→Dn ops.length listed D→fuel+D.length=ops.length→wpAnyIn (wd κ.rd) 0 P .any ops.toArray Q fuel listed a w):
  ∀(T:Tr) (done:List Nat),QC3 ops D done T=true→
   ∀fuel listed σ g a w,Dn ops.length listed done→fuel+done.length=ops.length→evC P ti N ops K T σ→St κ N g σ a w→∀i∈T.heads,∃fuel',fuel=fuel'+1∧wpOpIn (wd κ.rd) 0 P ops.toArray Q i (wpAnyIn (wd κ.rd) 0 P .any ops.toArray Q fuel' (listed.setIfInBounds i true)) a w:=by
 intro T
 induction T with
 |nil=>intro done _ fuel listed σ g a w _ _ _ _ i hi;cases hi
 |cons i sub rest ihs ihr=>
  intro done hok fuel listed σ g a w hd hf hev hst j hj
  simp only[QC3,zf,ya]at hok
  obtain⟨⟨⟨b1,b2⟩,b3⟩,b5⟩:=hok
  obtain⟨he,hr⟩:=hev
  by_cases hji:j=i
  ·subst hji
   have hid:j∉done:=fun h=>by unfold QES at b2;rw[Q3.2 h]at b2;simp at b2
   have hnd:(j::done).Nodup:=vj.2 ⟨hid,hd.nd⟩
   have hltd:∀k∈j::done,k<ops.length:=fun k hk=>by
    rcases zm.1 hk with rfl|hk
    ·exact b1
    ·exact hd.lt k hk
   have hlen:=QCT ops.length (j::done) hnd hltd
   simp only[yq]at hlen
   obtain⟨fuel',rfl⟩:∃f,fuel=f+1:=⟨fuel-1,by omega⟩
   refine⟨fuel',rfl,?_⟩
   have hio:ops[j]? =some ops[j]:=zi b1
   rw[hio]at he
   simp only at he
   refine QBJ hti hio he hst fun g' σ' a' w' hK hst'=>?_
   have hd':Dn ops.length (listed.setIfInBounds j true) (j::done):=by
    refine⟨by simp[hd.size],fun k hk b=>?_,hnd,hltd⟩
    by_cases hjk:j=k
    ·subst hjk
     rw[Qe b (by rw[hd.size];exact hk)];simp
    ·rw [getD_set_ne b hjk,hd.mem k hk b,zm]
     exact⟨.inr,fun h=>h.resolve_left (w8 hjk)⟩
   have hK':(bif sub.isNil then K σ' else evC P ti N ops K sub σ'):=hK
   cases hsub:sub with
   |nil=>
    rw[hsub]at hK' b3
    have hsm:QIb D (j::done)=true:=b3
    have hl:D.length=(j::done).length:=by
     simp only[QIb,zf]at hsm
     exact zh hsm.2
    exact H g' σ' a' w' fuel' _ hK' hst' (hd'.same hD hsm) (by rw[hl,yq];omega)
   |cons i' s' r'=>
    rw[hsub]at hK' b3
    have b3:(QE2 ops (j::done) (Tr.cons i' s' r').heads&&QC3 ops D (j::done) (.cons i' s' r'))=true:=b3
    simp only[zf]at b3
    obtain⟨b3,b4⟩:=b3
    have hcov:∀k,k∈Region.ready .any ops.toArray (listed.setIfInBounds j true)→k∈(Tr.cons i' s' r').heads:=fun k hk=>by
     obtain⟨r1,r2,_⟩:=QGv hd' hk
     have:=ze.1 b3 k (y4.2 r2)
     rw[r1]at this
     simp only[vz,uh]at this
     exact Q3.1 this
    have hs:=ihs (j::done) (by rw[hsub];exact b4) fuel' _ σ' g' a' w' hd' (by simp only[yq];omega) (by rw[hsub];exact hK') hst'
    rw[hsub]at hs
    obtain⟨f2,rfl,_⟩:=hs i' zu
    refine⟨fun h0=>?_,fun k hk=>?_⟩
    ·exfalso
     simp only[QC3,zf,ya]at b4
     have:=QGw hd' b4.1.1.1 b4.1.1.2
     rw[h0]at this;cases this
    ·obtain ⟨f3,e3,h3⟩:=hs k (hcov k hk)
     obtain rfl:f2=f3:=by omega
     exact h3
  ·rcases zm.1 hj with rfl|hj
   ·exact absurd rfl hji
   ·exact ihr done b5 fuel listed σ g a w hd hf hr hst j hj
theorem QIc{F:Fence}{n:Nat}{ops:List Oper}{Q:Exit→Act→World→Prop}{fuel:Nat}{listed:Array Bool}{done hs:List Nat}{a:Act}{w:World}(hd:Dn ops.length listed done)(hc:QE2 ops done hs=true)(i:Nat)(hi:i∈hs)(hr:QES ops done i=true)(hil:i<ops.length)
  (h:∀i∈hs,∃fuel',fuel=fuel'+1∧wpOpIn F n P ops.toArray Q i (wpAnyIn F n P .any ops.toArray Q fuel' (listed.setIfInBounds i true)) a w):wpAnyIn F n P .any ops.toArray Q fuel listed a w:=by
 obtain⟨f,hf,_⟩:=h i hi
 subst hf
 refine⟨fun h0=>?_,fun k hk=>?_⟩
 ·exfalso
  have:=QGw hd hil hr
  rw[h0]at this;cases this
 ·have hcov:k∈hs:=by
   obtain⟨r1,r2,_⟩:=QGv hd hk
   have:=ze.1 hc k (y4.2 r2)
   rw[r1]at this
   simp only[vz,uh]at this
   exact Q3.1 this
  obtain⟨f3,e3,h3⟩:=h k hcov
  obtain rfl:f=f3:=by omega
  exact h3
theorem QB4.cut(hti:QV P ti){ops:List Oper}{done:List Nat}{σ:S}{K:S→Prop}(T:Tr)(D:List Nat)(τ:S)(hB:(QE2 ops done T.heads&&QC3 ops D done T&& !T.isNil&&QP2 D)=true)(h:evC P ti N ops (fun σ'=>Wk N σ' τ) T σ)(h2:QB4 P ti N ops D τ K):QB4 P ti N ops done σ K:=by
 simp only[zf,wv]at hB
 obtain⟨⟨⟨b1,b2⟩,b3⟩,b4⟩:=hB
 refine⟨fun κ g a w hst Q hQ fuel listed hd hf=>?_⟩
 have hs:=QLg (N:=N) (Q:=Q) (κ:=κ) hti (QKr b4) (fun g' σ' a' w' fuel' listed' hK hst' hd' hf'=>by
  obtain⟨g2,hst2⟩:=hK.run κ g' a' w' hst'
  exact h2.run κ g2 a' w' hst2 Q hQ fuel' listed' hd' hf') T done b2 fuel listed σ g a w hd hf h hst
 cases T with
 |nil=>cases b3
 |cons i s r=>
  simp only[QC3,zf,ya]at b2
  exact QIc hd b1 i zu b2.1.1.2 b2.1.1.1 hs
theorem QB4.fin(hti:QV P ti){ops:List Oper}{done:List Nat}{σ:S}{K:S→Prop}(T:Tr)(hB:(QE2 ops done T.heads&&QDE ops done T&& !T.isNil)=true)(h:evC P ti N ops K T σ):QB4 P ti N ops done σ K:=by
 simp only[zf,wv]at hB
 obtain⟨⟨b1,b2⟩,b3⟩:=hB
 refine⟨fun κ g a w hst Q hQ fuel listed hd hf=>?_⟩
 have hs:=QIP (N:=N) hti hQ T T done b2 (fun _ _=>trivial) fuel listed σ g a w hd hf h hst
 cases T with
 |nil=>cases b3
 |cons i s r=>
  simp only[QDE,zf,ya]at b2
  exact QIc hd b1 i zu b2.1.1.1.2 b2.1.1.1.1 hs
theorem ZG.of_D{ops:List Oper}{σ:S}{K:S→Prop}(h:QB4 P ti N ops [] σ K):ZG P ti N ops σ K:=
 ⟨fun κ g a w hst Q hQ _=>h.run κ g a w hst Q hQ ops.length _ ⟨by simp,fun k hk b=>by simp[Array.getD,hk],wz,fun k hk=>by cases hk⟩ (by simp)⟩
def QId(id:Nat):Code→Option (List Oper)
 | .region i ops _=>bif Nat.beq i id then some ops.toList else none
 | .loop c=>QId id c
 | .seq a b=>match QId id a with|some c=>some c|none=>QId id b
 | .cond _ a b=>match QId id a with|some c=>some c|none=>QId id b
 | .block _ c=>QId id c
 | .scope c=>QId id c
 |_=>none
def QUe(id:Nat)(c:Code):List Oper:=match QId id c with|some l=>l|none=>[]
end
end Go.Sy
namespace Go.Sy
section
variable {P:Program} {ti:Nat→Option Ty} {N:Nat}
theorem FnC.of{f:Nat}{rs:List ResultVar}{c:Code}{args:List AV}{r:AV}(hti:QV P ti)(hi:FnI P f N rs c)(hr:r.isP=true)(h:vc P ti N c (fin ti rs (· =r)) ⟨idx 0 args,[],0⟩)
  (ha:args.all AV.isP=true:=by exact rfl) (hl:args.length≤N:=by exact ye rfl):FnC P f args r:=by
 obtain⟨⟨fn,h1,h2,h3,h4⟩,h5⟩:=hi
 subst h4
 exact FnC.intro hti h1 h2 h3 h5 ha hl hr h
theorem FnH.of{f:Nat}{rs:List ResultVar}{cd:Code}{args:List AV}{pre post:List (Nat×Ob)}{n m:Nat}{st:List Nat}{r:AV}(hti:QV P ti)(hi:FnI P f N rs cd)(h:∀T,vc P ti N cd (QRn ti N rs n st T r post) ⟨idx 0 args,pre++Qs n st T,n+1+st.length⟩)
  (ha:args.all (AV.lt n)=true:=by exact rfl) (hp:pre.all (fun p=>Nat.blt p.1 n&&p.2.lt n&&p.2.pl)=true:=by exact rfl) (hq:post.all (fun p=>Nat.blt p.1 m&&p.2.lt m&&p.2.pl)=true:=by exact rfl) (hnm:n≤m:=by decide) (hrl:r.lt m=true:=by exact rfl) (hs:st.all (fun k=>Nat.blt k n&&QB3 k pre)=true:=by exact rfl)
  (hqt:post.all (fun p=>p.2.nt st p.1)=true:=by exact rfl) (hrt:r.nt st=true:=by exact rfl) (hlen:Nat.ble args.length N=true:=by exact rfl):FnH P f args pre n st r post m:=by
 obtain⟨⟨fn,h1,h2,h3,h4⟩,h5⟩:=hi
 subst h4
 exact FnH.intro hti h1 h2 h3 h5 ha hp hq hnm hrl hs hqt hrt hlen h
theorem CallI.h{f n m:Nat}{o:Oper}{σ:S}{l args:List AV}{pre post:List (Nat×Ob)}{st:List Nat}{r:AV}{K:S→Prop}(hC:FnH P f args pre n st r post m)(ns:List Nat)
  (h:K (S.put ⟨QCW (usL st 0 ns) σ.sl,X2 (phi ns n σ.nx) post++(Jq ns++Yw (usL st 0 ns) ns (st.map (XN ns)) σ.mem σ.mem),σ.nx+m⟩ o.dst (r.ren (phi ns n σ.nx))))
  (hl:l=args.map (AV.ren (XN ns)):=by with_unfolding_all exact rfl) (hn:ns.length=n∧ns.Nodup∧ns.all (fun q=>Nat.blt q σ.nx)=true:=by exact⟨rfl,by decide,by with_unfolding_all exact rfl⟩)
  (hpre:ZP σ.mem (X2 (XN ns) pre):=by repeat' (first|exact trivial|refine And.intro rfl ?_)):CallI P N o σ f l K:=CallI.byH hC ns hl hn hpre rfl rfl h
theorem CallI.hp{f n m:Nat}{o:Oper}{σ:S}{l args:List AV}{pre post:List (Nat×Ob)}{st:List Nat}{r:AV}{K:S→Prop}(hC:FnH P f args pre n st r post m)(ns:List Nat)
  (h:K (S.put ⟨QCW (usL st 0 ns) σ.sl,X2 (phi ns n σ.nx) post++(Jq ns++Yw (usL st 0 ns) ns (st.map (XN ns)) σ.mem σ.mem),σ.nx+m⟩ o.dst (r.ren (phi ns n σ.nx))))
  (hlA:QEX l (args.map (AV.ren (XN ns))):=by repeat' (first|exact trivial|refine And.intro (.inl rfl) ?_|refine And.intro (.inr (by with_unfolding_all exact rfl)) ?_)) (hn:ns.length=n∧ns.Nodup∧ns.all (fun q=>Nat.blt q σ.nx)=true:=by exact⟨rfl,by decide,by with_unfolding_all exact rfl⟩)
  (hpre:ZP σ.mem (X2 (XN ns) pre):=by repeat' (first|exact trivial|refine And.intro rfl ?_)):CallI P N o σ f l K:=CallI.byHp hC ns hlA hn hpre rfl rfl h
theorem cEk{f:Nat}{l:List AV}{K:AV→Prop}{B:Prop}{r:AV}(h:FnC P f l r)(k:K r):CallE (ZQ P f l K) B:=CallE.con ⟨r,h,k⟩
theorem cPk{f:Nat}{l:List AV}{K:AV→Prop}{r:AV}(h:FnC P f l r)(k:K r):ZQ P f l K:=⟨⟨r,h,k⟩⟩
theorem QS{σ:S}{rs:List ResultVar}{n:Nat}{st:List Nat}{T:Nat→Nat}{r:AV}{post:List (Nat×Ob)}(h1:match YS ti rs σ with|some l=>YY l=r|none=>False:=by exact rfl)
  (h2:ZP σ.mem post:=by repeat' (first|exact trivial|refine And.intro rfl ?_)) (h3:ZP σ.mem (Qs n st T):=by repeat' (first|exact trivial|refine And.intro rfl ?_)):
  ∃τ,Wk N σ τ∧(match YS ti rs τ with|some l=>YY l=r|none=>False)∧ZP τ.mem post∧ZP τ.mem (Qs n st T):=QY h1 h2 h3
theorem Wk.e{σ τ:S}(h1:ZP σ.sl τ.sl:=by repeat' (first|exact trivial|refine And.intro rfl ?_))(h2:ZP σ.mem τ.mem:=by repeat' (first|exact trivial|refine And.intro rfl ?_))(h3:τ.ok=true:=by exact rfl):Wk N σ τ:=Wk.en ⟨h1,h2,h3⟩
theorem rF{f:Nat}{o:Oper}{σ:S}{l l':List AV}{K:S→Prop}{r:AV}(h:FnC P f l' r)(k:K (σ.put o.dst r))(hA:ArF σ.mem l l')(hr:r.flatP=true:=by with_unfolding_all exact rfl):CallI P N o σ f l K:=CallI.byR (YU.mkF ⟨l',r,hA,h,hr,k⟩)
theorem rR{mem:List (Nat×Ob)}{f:Nat}{l l':List AV}{K:AV→Prop}{r:AV}(h:FnC P f l' r)(k:K r)(hA:ArF mem l l')(hr:r.flatP=true:=by with_unfolding_all exact rfl):YU P mem f l K:=YU.mkF ⟨l',r,hA,h,hr,k⟩
end
end Go.Sy
namespace Go.Sy
section
variable {P:Program} {ti:Nat→Option Ty} {N:Nat} {σ:S} {o:Oper} {K:S→Prop}
end
end Go.Sy
namespace Go.Sy
section
variable {P:Program} {ti:Nat→Option Ty} {N:Nat}
end
end Go.Sy
