/- A computing verification layer for data, proved sound over the library: what a body comes to, by its literal code. Conditions: none. -/
import Derived.Test.YtikgcbioagmkkaaGreatDoorFSD
import Derived.Test.YtikgcbioagmkkaaGreatDoorFSC
set_option maxRecDepth 100000
set_option linter.all false
namespace Go.Sy
section
variable {P:Program} {ti:Nat→Option Ty} {N:Nat} {F:Fence} {n:Nat}
theorem QB6{ops:Array Oper}{Q:Exit→Act→World→Prop}{i:Nat}{o:Oper}{v:Value}(hi:ops[i]? =some o)(hd:∀c,o.op≠ .defer c)(hb:∀w ev,o.about P w ev=none)(hg:o.guard=none){K:Act→World→Prop}{a:Act}{w:World}(hv:YV P o v a)(h:K (a.put o.dst v) w):wpOpIn F n P ops Q i K a w:=by
 unfold Go.wpOpIn
 simp only[hi]
 rw[if_pos (Zg hg)]
 refine⟨fun f hf=>?_,?_⟩
 ·rw [hb]at hf;cases hf
 ·rw [v6 _ _ _ hd,hv w]
  exact h
theorem QFO{ops:Array Oper}{Q:Exit→Act→World→Prop}{md:Region.Mode}{i:Nat}{oi:Oper}{v:Value}(hi:ops[i]? =some oi)(hs:∀cs b,oi.op≠ .select cs b)(hd:∀c,oi.op≠ .defer c)(hb:∀w ev,oi.about P w ev=none)(hg:oi.guard=none)
  (hsel:∀(j:Nat) (o:Oper),ops[j]? =some o→(∀cs b,o.op≠ .select cs b)∧∀c,o.op≠ .defer c) (hQ:∀c a w,¬Q (.panic c) a w):
  ∀(fuel:Nat) (listed:Array Bool) (a:Act) (w:World),YV P oi v a→
   (∀j oj,ops[j]? =some oj→j≠i→listed.getD j true=false→(∀e∈oj.after,Region.binds md e=true→e.on≠i)→oi.apart ops oj=true)→
   i∈Region.ready md ops listed→
   wpAnyIn F n P md ops Q fuel (listed.setIfInBounds i true) (a.put oi.dst v) w→wpAnyIn F n P md ops Q (fuel+1) listed a w:=by
 intro fuel
 induction fuel with
 |zero=>
  intro listed a w hv _ hr H
  refine⟨fun h=>(by rw[h]at hr;cases hr),fun j hj=>?_⟩
  by_cases hji:j=i
  ·subst hji;exact QB6 hi hd hb hg hv H
  ·have:=ready_mono hj hji
   rw[H.1]at this
   cases this
 |succ fuel ih=>
  intro listed a w hv hfree hr H
  refine⟨fun h=>(by rw[h]at hr;cases hr),fun j hj=>?_⟩
  by_cases hji:j=i
  ·subst hji;exact QB6 hi hd hb hg hv H
  ·have h1:=H.2 j (ready_mono hj hji)
   obtain⟨hjun,oj,hoj,hall⟩:=mem_ready.1 hj
   have hnot:∀e∈oj.after,Region.binds md e=true→e.on≠i:=fun e he hb heq=>by
    have h1:=hall e he hb
    have h0:=(mem_ready.1 hr).1
    rw[heq]at h1
    rcases yq i listed.size with h'|h'
    ·simp [h']at h0 h1;rw[h0]at h1;cases h1
    ·simp [yz h']at h1
   have h2:=QB5 hoj hs (hfree j oj hoj hji hjun hnot) (hsel j oj hoj).1 (hsel j oj hoj).2 hQ hv h1
   have hfree':∀k ok,ops[k]? =some ok→k≠i→(listed.setIfInBounds j true).getD k true=false→
     (∀e∈ok.after,Region.binds md e=true→e.on≠i)→oi.apart ops ok=true:=fun k ok hk hki hun hno=>by
    refine hfree k ok hk hki ?_ hno
    by_cases hjk:j=k
    ·subst hjk;exact hjun
    ·rw [getD_set_ne true hjk]at hun;exact hun
   refine wpOpIn_mono (fun a' w' ⟨h3,hv'⟩=>ih (listed.setIfInBounds j true) a' w' hv' hfree' (ready_mono hr (wl hji)) ?_) h2
   rw[ko _ _ hji]
   exact h3
def QQi:Op→Bool
 | .binOp .add .. | .binOp .sub .. =>true
 | .call c=>match c.callee with
  | .builtin .len=>true
  |_=>false
 |o=>QPK o
def J0(N:Nat)(ops:List Oper)(h:Nat):Bool:=
 match ops[h]? with
 |some o=>QQi o.op&&(match o.guard with|none=>true|some _=>false)&&(match o.dst with|some d=>Nat.blt d N|none=>false)&&o.after.toList.all (fun e=> !Region.binds .any e)&&ops.all (fun o=>QH1 o.op&&QAD h o)&&
   Region.free .any ops.toArray (Array.replicate ops.length false) h
 |none=>false
theorem Q2.hoistM{ops:List Oper}{σ:S}{K:S→Prop}{h d:Nat}{v:AV}{o:Oper}(ho:ops[h]? =some o)(hg:o.guard=none)(b3:(match o.dst with|some d=>Nat.blt d N|none=>false)=true)
  (b4:(o.after.toList.all (fun e=> !Region.binds .any e))=true) (b5:(ops.all (fun o=>QH1 o.op&&QAD h o))=true) (b6:Region.free .any ops.toArray (Array.replicate ops.length false) h=true)
  (hn1:∀cs b,o.op≠ .select cs b) (hn2:∀c,o.op≠ .defer c) (hab:∀w ev,o.about P w ev=none)
  (hd:o.dst=some d) (hlt:σ.ok=true→v.lt σ.nx=true) (hY:∀κ g a w,St κ N g σ a w→∃u,YV P o u a∧AVR g v u) (hK:Q2 P ti N (Ql h h ops) ⟨(d,v)::σ.sl,σ.mem,σ.nx⟩ K):Q2 P ti N ops σ K:=by
 have hdN:d<N:=by rw[hd]at b3;simpa using b3
 have hhl:h<ops.length:=(z8.1 ho).1
 have ho':ops.toArray[h]? =some o:=by simpa using ho
 have hall:∀(j:Nat) (o':Oper),ops[j]? =some o'→QH1 o'.op=true∧QAD h o'=true:=fun j o' hj=>by
  have:=zb.1 b5 o' (yi hj)
  simpa using this
 refine⟨fun κ g a w hst Q hQ hP=>?_⟩
 obtain⟨u,hyv,hav⟩:=hY κ g a w hst
 have hst1:St κ N g ⟨(d,v)::σ.sl,σ.mem,σ.nx⟩ (a.put o.dst u) w:=by
  rw[hd]
  exact hst.put hdN (.refl _ _) hst.inv hav (S.ok_cons hst.ok (zr _) (hlt hst.ok) (S.ok_memAll hst.ok))
 have h1:=hK.run κ g _ w hst1 Q hQ hP
 have hdl:=QCP (h:=h) h ops hhl
 obtain⟨m,hm⟩:∃m,ops.length=m+1:=⟨ops.length-1,by omega⟩
 have hdm:(Ql h h ops).length=m:=by omega
 rw[hdm]at h1
 rw[hm]
 refine QFO ho' hn1 hn2 hab hg (fun j o' hj=>?_) hP m _ a w hyv ?_ ?_ ?_
 ·have:=(hall j o' (by simpa using hj)).1
  refine⟨fun cs b hq=>?_,fun c hq=>?_⟩<;>rw[hq]at this<;>cases this
 ·intro j oj hj hne hun hno
  have:=qi ho' b6 j oj hj hne (by rw[hm];exact hun) hno
  exact this
 ·refine mem_ready.2 ⟨by simp[Array.getD];omega,o,ho',fun e he hb=>?_⟩
  have:=zb.1 b4 e (by simpa using he)
  rw[hb]at this;cases this
 ·refine QFH (h:=h) (fun j o' hj i c hgc hih=>?_) m _ _ _ w ?_ ?_ ?_ h1
  ·have:=(hall j o' hj).2
   unfold QAD at this
   rw[hgc]at this
   simp only[hih,xl,vl]at this
   cases this
  ·intro i b
   rw[getD_set_ne b (wl (QL9 h i))]
   by_cases hi:i<m
   ·have:up h i<m+1:=by
     unfold up
     by_cases hih:i<h
     ·rw [ZE hih,cond_true];omega
     ·rw [Zn hih,cond_false];omega
    simp[Array.getD,hi,this]
   ·have:¬up h i<m+1:=by
     unfold up
     by_cases hih:i<h
     ·rw [ZE hih,cond_true];omega
     ·rw [Zn hih,cond_false];omega
    simp[Array.getD,hi,this]
  ·exact QU true (by simp;omega)
  ·exact QU false (by simp;omega)
def Xa(P:Program)(ti:Nat→Option Ty)(ops:List Oper)(h:Nat)(σ:S)(K':S→Prop):Prop:=
 match ops[h]? with
 |some o=>match o.op with
  | .binOp op t x y _=>match o.dst,ρ σ.sl x,ρ σ.sl y with
   |some d,some (.d (.it .i64 a)),some (.d (.it .i64 b))=>QDP op .i64 a b fun z=>K' ⟨(d,.d z)::σ.sl,σ.mem,σ.nx⟩
   |_,_,_=>False
  | .call c=>match c.callee,c.args.toList,o.dst,(c.argTypes[0]?).bind ti with
   | .builtin .len,[x],some d,some ⟨.slice e,_,_,_,_,_⟩=>match (ρ σ.sl x).bind Zc with
    |some (_,es)=>K' ⟨(d,.d (.it .i64 (es.length:Nat)))::σ.sl,σ.mem,σ.nx⟩
    |none=>False
   |_,_,_,_=>False
  |_=>X3 P ti ops h σ K'
 |none=>False
theorem Q2.new(hti:QM P ti){ops:List Oper}{σ:S}{K:S→Prop}(h m:Nat)(hK:QH8 P ti N ops h m σ K):Q2 P ti N ops σ K:=by
 unfold QH8 at hK
 split at hK
 case h_2=>exact hK.elim
 rename_i oh hoh
 split at hK
 case h_2=>exact hK.elim
 rename_i e d hop hd
 split at hK
 case h_2=>exact hK.elim
 rename_i ty hty
 obtain⟨hb,hK⟩:=QQ hK
 simp only[zf]at hb
 obtain⟨hb,hb1,hb2⟩:=hb
 unfold QNa at hb
 split at hb
 case h_2=>cases hb
 rename_i ms d' hms hd' hg
 have hdd:d'=d:=by rw[hd]at hd';exact(za hd').symm
 subst hdd
 simp only[zf]at hb
 obtain⟨⟨⟨⟨c1,c2⟩,c3⟩,c4⟩,c5⟩:=hb
 have hml:=ya c2
 have hhm:h<m:=by simpa using c1
 refine⟨fun κ g a w hst Q hQ _=>?_⟩
 obtain⟨vs,σ',htail,hok',hmem,hnx,hch⟩:=Xp hti _ σ hst.ok hK
 rw[hmem,hnx]at htail
 have key:wpAnyIn (wd κ.rd) 0 P .any ops.toArray Q ops.length (Array.replicate ops.length false) a w:=by
  have:=QI3 (Q:=Q) hti hoh hop hg hd hty (zh hb1) (by simpa using hb2) hhm (fun o ho=>by
    unfold QPD at c5
    rw[zb]at c5
    have:=c5 o ho
    rw[wg]at this
    intro hmem'
    rw[Qv.2 hmem']at this
    cases this) hms hml (fun i' h1 h2=>Xr c4 i' h1 (by omega)) c3 hst.ok hok' hmem hnx hch hQ htail m (List.range m) (Array.replicate ops.length false) g a w
   y5 ja (fun k=>by
    rw[xd]
    refine⟨fun hk=>⟨hk,by simp[Array.getD,show k<ops.length by omega]⟩,fun hk=>hk.1⟩) (by simp) (fun k _ hk=>by simp[Array.getD,hk]) (fun k o _ hk=>by simp[Array.getD]at hk)
   (by
    have hf:(Array.replicate ops.length false).getD h false=false:=by simp[Array.getD]
    rw[hf]
    exact⟨hst.size,hst.defers,hst.inv,(fun hl=>by cases hl),fun i d _ hi=>by simp[Array.getD]at hi,fun k v hk _=>hst.sl k v hk⟩)
  rw[show m+(ops.length-m)=ops.length by omega]at this
  exact this
 exact key
theorem QDP.mono{op:BinOp}{k:IntKind}{a b:Int}{A B:D→Prop}(hab:∀z,A z→B z)(h:QDP op k a b A):QDP op k a b B:=by
 cases op<;>simp only[QDP]at h⊢
 all_goals first|exact hab _ h|exact⟨hab _ h.run⟩|exact⟨h.1,⟨hab _ h.2.run⟩⟩
theorem Xa.mono{ops:List Oper}{h:Nat}{σ:S}{A B:S→Prop}(hab:∀σ,A σ→B σ)(hk:Xa P ti ops h σ A):Xa P ti ops h σ B:=by
 unfold Xa at hk⊢
 split at hk
 ·split at hk
  ·split at hk
   ·exact QDP.mono (fun z=>hab _) hk
   ·exact hk.elim
  ·split at hk
   ·split at hk
    ·exact hab _ hk
    ·exact hk.elim
   ·exact hk.elim
  ·exact X3.mono hab hk
 ·exact hk.elim
theorem Q2.hoistW(hti:QM P ti){ops:List Oper}{σ:S}{K:S→Prop}(h:Nat)(hB:J0 N ops h=true)(hK:Xa P ti ops h σ fun σ'=>Q2 P ti N (Ql h h ops) σ' K):Q2 P ti N ops σ K:=by
 cases ho:ops[h]? with
 |none=>unfold J0 at hB;rw[ho]at hB;cases hB
 |some o=>
 have hB':=hB
 unfold J0 at hB
 unfold Xa at hK
 rw[ho]at hB hK
 simp only[zf]at hB
 obtain⟨⟨⟨⟨⟨b1,b2⟩,b3⟩,b4⟩,b5⟩,b6⟩:=hB
 have hg:o.guard=none:=by
  cases hq:o.guard with
  |none=>rfl
  |some _=>rw[hq]at b2;cases b2
 simp only at hK
 split at hK
 ·rename_i op t x y t' hop
  split at hK
  ·rename_i d a b hd hx hy
   have hpl:op≠ .shl∧op≠ .shr:=by
    rw[hop]at b1
    refine⟨fun q=>?_,fun q=>?_⟩<;>(subst q;cases b1)
   obtain⟨z,w,hKz,hD,hr⟩:=QCN (P:=P) hK
   refine .hoistM (v:= .d z) ho hg b3 b4 b5 b6 (fun cs b hq=>by rw[hop]at hq;cases hq) (fun c hq=>by rw[hop]at hq;cases hq) (fun w ev=>by unfold Oper.about;rw[hop]) hd (fun _=>rfl) (fun κ g A W hst=>?_) hKz
   refine⟨w,fun W'=>?_,.d _ _ (hD _)⟩
   have h1:=Qw (ρ_ok hst.sl hx)
   have h2:=Qw (ρ_ok hst.sl hy)
   simp only[execOp,hop,h1,h2,zj,XC op t x y _ _ (.inl ⟨_,_,rfl⟩),zg,hr t .i64 (.inl rfl) W',zp]
  ·exact hK.elim
 ·rename_i c hop
  split at hK
  ·rename_i x d e _ _ _ _ _ hc ha hd ht
   split at hK
   ·rename_i sz es hs
    obtain⟨v,hx,hv⟩:=x6.1 hs
    obtain⟨tt,h0,hty⟩:=x6.1 ht
    obtain⟨cc,xs,ats⟩:=c
    dsimp only at hc ha h0
    obtain⟨xs⟩:=xs
    dsimp only at ha
    subst hc ha
    refine .hoistM (v:= .d (.it .i64 (es.length:Nat))) ho hg b3 b4 b5 b6 (fun cs b hq=>by rw[hop]at hq;cases hq) (fun c hq=>by rw[hop]at hq;cases hq) (fun w ev=>by simp[Oper.about,hop,resolve,Target.leads,zp]) hd (fun _=>rfl) (fun κ g a W hst=>?_) hK
    obtain⟨u,i,ht⟩:=QD (hti _ _ hty)
    obtain rfl:=Qh ht rfl
    refine⟨.int .i64 es.length,fun W'=>?_,.d _ _ (.it _ _)⟩
    have h1:=Z0 hv (ρ_ok hst.sl hx)
    have h2:∃ad cap,a.eval x= .slice ad es.length cap:=by
     generalize a.eval x=q at h1
     cases h1 with
     |fs0=>exact⟨_,_,rfl⟩
     |fs _ _ b off len cap vs hl=>subst hl;exact⟨_,_,rfl⟩
    obtain⟨ad,cap,h2⟩:=h2
    rw[QG hop]
    simp[builtin,Builtin.len_,h2,h0,run_underlying ht.und,goInt]
   ·exact hK.elim
  ·exact hK.elim
 ·rename_i hn1 hn2
  refine .hoistV hti h ?_ hK
  unfold J0 at hB'
  unfold QCT
  rw[ho]at hB'⊢
  have:QQi o.op=QPK o.op:=by
   cases hq:o.op<;>first|rfl|exact absurd hq (hn1 _ _ _ _ _)|exact absurd hq (hn2 _)
  dsimp only at hB'⊢
  rw[this]at hB'
  exact hB'
def hNew(P:Program)(ti:Nat→Option Ty)(N:Nat)(K:S→Prop):List Nat→List Oper→S→Prop
 |[],ops,σ=>QH8 P ti N ops (QEG 0 ops) (cut ops) σ K
 |h::hs,ops,σ=>Xa P ti ops h σ fun σ'=>hNew P ti N K hs (Ql h h ops) σ'
def QJD(N:Nat):List Nat→List Oper→Bool
 |[],ops=>QME ops
 |h::hs,ops=>J0 N ops h&&QJD N hs (Ql h h ops)
theorem Q2.hNew(hti:QM P ti){K:S→Prop}:∀(hs:List Nat) (ops:List Oper) (σ:S),QJD N hs ops=true→Sy.hNew P ti N K hs ops σ→Q2 P ti N ops σ K
 |[],ops,σ,hB,h=> .new hti _ _ h
 |k::hs,ops,σ,hB,h=>by
  simp only[QJD,zf]at hB
  exact .hoistW hti k hB.1 (Xa.mono (fun σ' hk=>Q2.hNew hti hs _ σ' hB.2 hk) h)
theorem QER(hti:QM P ti)(hm:P.follows .mixedOrders=true){id:Nat}{ops:List Oper}{σ:S}{K:S→Prop}(hs:List Nat)(hB:QJD N hs ops=true)(h:hNew P ti N K hs ops σ):QX P ti N id ops σ K:= .of_A hm (.hNew hti hs ops σ hB h)
def hTreeW(P:Program)(ti:Nat→Option Ty)(N:Nat)(K:S→Prop)(T:Tr):List Nat→List Oper→S→Prop
 |[],ops,σ=>evC P ti N ops K T σ
 |h::hs,ops,σ=>Xa P ti ops h σ fun σ'=>hTreeW P ti N K T hs (Ql h h ops) σ'
def QCV(N:Nat)(T:Tr):List Nat→List Oper→Bool
 |[],ops=>QGp ops [] T.heads&&QCF ops [] T&& !T.isNil
 |h::hs,ops=>J0 N ops h&&QCV N T hs (Ql h h ops)
theorem Q2.hTreeW(hti:QM P ti){K:S→Prop}{T:Tr}:∀(hs:List Nat) (ops:List Oper) (σ:S),QCV N T hs ops=true→Sy.hTreeW P ti N K T hs ops σ→Q2 P ti N ops σ K
 |[],ops,σ,hB,h=> .tree hti T hB h
 |k::hs,ops,σ,hB,h=>by
  simp only[QCV,zf]at hB
  exact .hoistW hti k hB.1 (Xa.mono (fun σ' hk=>Q2.hTreeW hti hs _ σ' hB.2 hk) h)
theorem ZH(hti:QM P ti)(hm:P.follows .mixedOrders=true){id:Nat}{ops:List Oper}{σ:S}{K:S→Prop}(hs:List Nat)(T:Tr)(hB:QCV N T hs ops=true)(h:hTreeW P ti N K T hs ops σ):QX P ti N id ops σ K:= .of_A hm (.hTreeW hti hs ops σ hB h)
end
end Go.Sy
namespace Go.Sy
section
variable {P:Program} {ti:Nat→Option Ty} {N:Nat}
def QMG(D done:List Nat):Bool:=D.all (fun k=>Z9 k done)&&done.all (fun k=>Z9 k D)&&Nat.beq D.length done.length
def QQj:List Nat→Bool
 |[]=>true
 |k::l=> !Z9 k l&&QQj l
structure QI(P:Program)(ti:Nat→Option Ty)(N:Nat)(ops:List Oper)(done:List Nat)(σ:S)(K:S→Prop):Prop where
 run:∀(κ:Ctx) (g:Gh) (a:Act) (w:World),St κ N g σ a w→∀Q:Exit→Act→World→Prop,(∀g' σ' a' w',K σ'→St κ N g' σ' a' w'→Q .normal a' w')→
  ∀(fuel:Nat) (listed:Array Bool),Dn ops.length listed done→fuel+done.length=ops.length→wpAnyIn (wd κ.rd) 0 P .any ops.toArray Q fuel listed a w
theorem Dn.same{m:Nat}{listed:Array Bool}{l D:List Nat}(h:Dn m listed l)(hD:D.Nodup)(hs:QMG D l=true):Dn m listed D:=by
 simp only[QMG,zf,zb]at hs
 have e:∀k,k∈D↔k∈l:=fun k=>⟨fun hk=>Qv.1 (hs.1.1 k hk),fun hk=>Qv.1 (hs.1.2 k hk)⟩
 exact⟨h.size,fun k hk b=>(h.mem k hk b).trans (e k).symm,hD,fun k hk=>h.lt k ((e k).1 hk)⟩
theorem QG4{F:Fence}{n:Nat}{ops:List Oper}{Q:Exit→Act→World→Prop}{fuel:Nat}{listed:Array Bool}{done hs:List Nat}{a:Act}{w:World}(hd:Dn ops.length listed done)(hc:QGp ops done hs=true)(i:Nat)(hi:i∈hs)(hr:QDB ops done i=true)(hil:i<ops.length)
  (h:∀i∈hs,∃fuel',fuel=fuel'+1∧wpOpIn F n P ops.toArray Q i (wpAnyIn F n P .any ops.toArray Q fuel' (listed.setIfInBounds i true)) a w):wpAnyIn F n P .any ops.toArray Q fuel listed a w:=by
 obtain⟨f,hf,_⟩:=h i hi
 subst hf
 refine⟨fun h0=>?_,fun k hk=>?_⟩
 ·exfalso
  have:=QH3 hd hil hr
  rw[h0]at this;cases this
 ·have hcov:k∈hs:=by
   obtain⟨r1,r2,_⟩:=QH2 hd hk
   have:=zb.1 hc k (xd.2 r2)
   rw[r1]at this
   simp only[vl,u0]at this
   exact Qv.1 this
  obtain⟨f3,e3,h3⟩:=h k hcov
  obtain rfl:f=f3:=by omega
  exact h3
theorem QI.fin(hti:QM P ti){ops:List Oper}{done:List Nat}{σ:S}{K:S→Prop}(T:Tr)(hB:(QGp ops done T.heads&&QCF ops done T&& !T.isNil)=true)(h:evC P ti N ops K T σ):QI P ti N ops done σ K:=by
 simp only[zf,wg]at hB
 obtain⟨⟨b1,b2⟩,b3⟩:=hB
 refine⟨fun κ g a w hst Q hQ fuel listed hd hf=>?_⟩
 have hs:=QGq (N:=N) hti hQ T T done b2 (fun _ _=>trivial) fuel listed σ g a w hd hf h hst
 cases T with
 |nil=>cases b3
 |cons i s r=>
  simp only[QCF,zf,z6]at b2
  exact QG4 hd b1 i zo b2.1.1.1.2 b2.1.1.1.1 hs
theorem Q2.of_D{ops:List Oper}{σ:S}{K:S→Prop}(h:QI P ti N ops [] σ K):Q2 P ti N ops σ K:=
 ⟨fun κ g a w hst Q hQ _=>h.run κ g a w hst Q hQ ops.length _ ⟨by simp,fun k hk b=>by simp[Array.getD,hk],wj,fun k hk=>by cases hk⟩ (by simp)⟩
def QG5(id:Nat):Code→Option (List Oper)
 | .region i ops _=>bif Nat.beq i id then some ops.toList else none
 | .loop c=>QG5 id c
 | .seq a b=>match QG5 id a with|some c=>some c|none=>QG5 id b
 | .cond _ a b=>match QG5 id a with|some c=>some c|none=>QG5 id b
 | .block _ c=>QG5 id c
 | .scope c=>QG5 id c
 |_=>none
def QQk(id:Nat)(c:Code):List Oper:=match QG5 id c with|some l=>l|none=>[]
end
end Go.Sy
namespace Go.Sy
section
variable {P:Program} {ti:Nat→Option Ty} {N:Nat}
theorem FnC.of{f:Nat}{rs:List ResultVar}{c:Code}{args:List AV}{r:AV}(hti:QM P ti)(hi:FnI P f N rs c)(hr:r.isP=true)(h:vc P ti N c (fin ti rs (· =r)) ⟨idx 0 args,[],0⟩)
  (ha:args.all AV.isP=true:=by exact rfl) (hl:args.length≤N:=by exact ya rfl):FnC P f args r:=by
 obtain⟨⟨fn,h1,h2,h3,h4⟩,h5⟩:=hi
 subst h4
 exact FnC.intro hti h1 h2 h3 h5 ha hl hr h
theorem FnH.of{f:Nat}{rs:List ResultVar}{cd:Code}{args:List AV}{pre post:List (Nat×Ob)}{n m:Nat}{st:List Nat}{r:AV}(hti:QM P ti)(hi:FnI P f N rs cd)(h:∀T,vc P ti N cd (QPH ti N rs n st T r post) ⟨idx 0 args,pre++Qn n st T,n+1+st.length⟩)
  (ha:args.all (AV.lt n)=true:=by exact rfl) (hp:pre.all (fun p=>Nat.blt p.1 n&&p.2.lt n&&p.2.pl)=true:=by exact rfl) (hq:post.all (fun p=>Nat.blt p.1 m&&p.2.lt m&&p.2.pl)=true:=by exact rfl) (hnm:n≤m:=by decide) (hrl:r.lt m=true:=by exact rfl) (hs:st.all (fun k=>Nat.blt k n&&QA9 k pre)=true:=by exact rfl)
  (hqt:post.all (fun p=>p.2.nt st p.1)=true:=by exact rfl) (hrt:r.nt st=true:=by exact rfl) (hlen:Nat.ble args.length N=true:=by exact rfl):FnH P f args pre n st r post m:=by
 obtain⟨⟨fn,h1,h2,h3,h4⟩,h5⟩:=hi
 subst h4
 exact FnH.intro hti h1 h2 h3 h5 ha hp hq hnm hrl hs hqt hrt hlen h
theorem CallI.h{f n m:Nat}{o:Oper}{σ:S}{l args:List AV}{pre post:List (Nat×Ob)}{st:List Nat}{r:AV}{K:S→Prop}(hC:FnH P f args pre n st r post m)(ns:List Nat)
  (h:K (S.put ⟨QBf (usL st 0 ns) σ.sl,XW (phi ns n σ.nx) post++(JB ns++YO (usL st 0 ns) ns (st.map (Zt ns)) σ.mem σ.mem),σ.nx+m⟩ o.dst (r.ren (phi ns n σ.nx))))
  (hl:l=args.map (AV.ren (Zt ns)):=by with_unfolding_all exact rfl) (hn:ns.length=n∧ns.Nodup∧ns.all (fun q=>Nat.blt q σ.nx)=true:=by exact⟨rfl,by decide,by with_unfolding_all exact rfl⟩)
  (hpre:ZB σ.mem (XW (Zt ns) pre):=by repeat' (first|exact trivial|refine And.intro rfl ?_)):CallI P N o σ f l K:=CallI.byH hC ns hl hn hpre rfl rfl h
theorem CallI.hp{f n m:Nat}{o:Oper}{σ:S}{l args:List AV}{pre post:List (Nat×Ob)}{st:List Nat}{r:AV}{K:S→Prop}(hC:FnH P f args pre n st r post m)(ns:List Nat)
  (h:K (S.put ⟨QBf (usL st 0 ns) σ.sl,XW (phi ns n σ.nx) post++(JB ns++YO (usL st 0 ns) ns (st.map (Zt ns)) σ.mem σ.mem),σ.nx+m⟩ o.dst (r.ren (phi ns n σ.nx))))
  (hlA:QDG l (args.map (AV.ren (Zt ns))):=by repeat' (first|exact trivial|refine And.intro (.inl rfl) ?_|refine And.intro (.inr (by with_unfolding_all exact rfl)) ?_)) (hn:ns.length=n∧ns.Nodup∧ns.all (fun q=>Nat.blt q σ.nx)=true:=by exact⟨rfl,by decide,by with_unfolding_all exact rfl⟩)
  (hpre:ZB σ.mem (XW (Zt ns) pre):=by repeat' (first|exact trivial|refine And.intro rfl ?_)):CallI P N o σ f l K:=CallI.byHp hC ns hlA hn hpre rfl rfl h
theorem cEk{f:Nat}{l:List AV}{K:AV→Prop}{B:Prop}{r:AV}(h:FnC P f l r)(k:K r):CallE (Ze P f l K) B:=CallE.con ⟨r,h,k⟩
theorem cPk{f:Nat}{l:List AV}{K:AV→Prop}{r:AV}(h:FnC P f l r)(k:K r):Ze P f l K:=⟨⟨r,h,k⟩⟩
theorem QJ{σ:S}{rs:List ResultVar}{n:Nat}{st:List Nat}{T:Nat→Nat}{r:AV}{post:List (Nat×Ob)}(h1:match Xw ti rs σ with|some l=>X1 l=r|none=>False:=by exact rfl)
  (h2:ZB σ.mem post:=by repeat' (first|exact trivial|refine And.intro rfl ?_)) (h3:ZB σ.mem (Qn n st T):=by repeat' (first|exact trivial|refine And.intro rfl ?_)):
  ∃τ,Wk N σ τ∧(match Xw ti rs τ with|some l=>X1 l=r|none=>False)∧ZB τ.mem post∧ZB τ.mem (Qn n st T):=Yw h1 h2 h3
theorem Wk.e{σ τ:S}(h1:ZB σ.sl τ.sl:=by repeat' (first|exact trivial|refine And.intro rfl ?_))(h2:ZB σ.mem τ.mem:=by repeat' (first|exact trivial|refine And.intro rfl ?_))(h3:τ.ok=true:=by exact rfl):Wk N σ τ:=Wk.en ⟨h1,h2,h3⟩
theorem rF{f:Nat}{o:Oper}{σ:S}{l l':List AV}{K:S→Prop}{r:AV}(h:FnC P f l' r)(k:K (σ.put o.dst r))(hA:ArF σ.mem l l')(hr:r.flatP=true:=by with_unfolding_all exact rfl):CallI P N o σ f l K:=CallI.byR (QAA.mkF ⟨l',r,hA,h,hr,k⟩)
theorem rR{mem:List (Nat×Ob)}{f:Nat}{l l':List AV}{K:AV→Prop}{r:AV}(h:FnC P f l' r)(k:K r)(hA:ArF mem l l')(hr:r.flatP=true:=by with_unfolding_all exact rfl):QAA P mem f l K:=QAA.mkF ⟨l',r,hA,h,hr,k⟩
end
end Go.Sy
namespace Go.Sy
section
variable {P:Program} {ti:Nat→Option Ty} {N:Nat} {σ:S} {o:Oper} {K:S→Prop}
def Jf(l:List (List D×D))(x:List D)(v:D):List (List D×D):=match Q9 l x with
 |some _=>QIE l (Je l x) v
 |none=>l++[(x,v)]
theorem OpX.mapUpdateA{t n ke ee kk:Nat}{x i y:Operand}{kx tp:List D}{vx:D}{l l2:List (List D×D)}(hop:o.op= .mapUpdate t x i y)(hno:o.dst=none)(ht:P.underlying t=some (.map ke ee))(hF:YP P ke tp)
  (hx:ρ σ.sl x=some (.mp n)) (hm:look n σ.mem=some (.mp true true tp l)) (hi:ρ σ.sl i=some (.dg kk kx)) (hl:Qd tp kx=true) (hy:ρ σ.sl y=some (.d vx)) (hl2:Jf l kx vx=l2)
  (hK:K ⟨σ.sl,(n,.mp true true tp l2)::σ.mem,σ.nx⟩):OpX P N o σ K:=by
 refine⟨fun hdN κ g a w hst next Q hn=>?_⟩
 subst hl2
 have hx':=ρ_ok hst.sl hx
 generalize ha:a.eval x=p at hx'
 have hob:=hst.inv.obs n _ hm
 have hh:g.has n=true:=hob.1 rfl
 cases hx' with|mp _ q0 hq0=>?_
 rw[hh,if_pos rfl]at hq0
 subst hq0
 have hi':=ρ_ok hst.sl hi
 generalize hb:a.eval i=q at hi'
 have hkey:=QJC hi' hl
 have hy':=ρ_ok hst.sl hy
 generalize hc:a.eval y=s at hy'
 cases hy' with|d _ _ hy'=>?_
 obtain⟨es,ck,h1,h2,h4⟩:=ZA.rel hob hh
 have hlt:g.blk n<w.heap.size:=(ve.1 h1).1
 have key:∃o',(execOp a.eval o).run P w= .ok .skip (w.putObj (g.blk n) o')∧ZU κ g (w.putObj (g.blk n) o') n (.mp true true tp (Jf l kx vx)):=by
  rcases hF.find hkey w l es.toList h2 with⟨a1,a2⟩|⟨z',e',a1,a2,a3,a4,a5⟩
  ·have hadd:Jf l kx vx=l++[(kx,vx)]:=by unfold Jf;rw[a1]
   refine⟨.map (es.push {key:=q,val:=s,born:=ck}) (ck+1),?_,hadd▸ZA.of_rel hh (vd hlt) (by rw[Array.toList_push];exact QG2 hkey hy' h2) h4.1 (h4.2.push _ _)⟩
   simp[execOp,hop,ha,hb,hc,Instr.mapUpdate,run_underlying ht,xr h1,hF.chk _ _ _ hkey,a2,um _ h1,Result.andThen,World.putObj]
  ·have hadd:Jf l kx vx=QIE l (Je l kx) vx:=by unfold Jf;rw[a1]
   have hj:es[Je l kx]? =some e':=by simpa using a3
   refine⟨.map (es.modify (Je l kx) fun e=> {e with key:=q,val:=s}) ck,?_,hadd▸ZA.of_rel hh (vd hlt) ?_ h4.1 (h4.2.modify _ _ fun _=>rfl)⟩
   ·simp [execOp,hop,ha,hb,hc,Instr.mapUpdate,run_underlying ht,xr h1,hF.chk _ _ _ hkey,a2,hj,a4,QJ8 hkey,um _ h1,Result.andThen,World.putObj]
   ·have hm2:(es.modify (Je l kx) fun e=> {e with key:=q,val:=s}).toList=es.toList.set (Je l kx) {e' with val:=s}:=by
     rw[Wg,qk _ _ _ _ (by simpa using a3),←a4]
    rw[hm2]
    exact QG3 hy' _ _ h2 (by simpa using a3)
 obtain⟨o',hrun,hob'⟩:=key
 refine Y4 hrun (hn g _ _ _ hK ?_)
 rw[hno]
 exact⟨hst.size,hst.defers,hst.sl,hst.inv.reMap hm hh hob',by
  refine S.ok_iff.2 ⟨(S.ok_iff.1 hst.ok).1,fun p hp=>?_⟩
  rcases zi.1 hp with rfl|hp
  ·exact ⟨(S.ok_mem hst.ok hm).1,rfl⟩
  ·exact S.ok_memAll hst.ok p hp⟩
theorem OpX.lookupOk{d t n ke ee:Nat}{x i:Operand}{dsc:TypeDesc}{kx r zd:D}{zv:Value}{b ok:Bool}{tp:List D}{l:List (List D×D)}(hop:o.op= .lookup t x i true)(hd:o.dst=some d)(ht:P.underlying t=some (.map ke ee))(hke:P.underlying ke=some dsc)(hT:QGw dsc tp=true)
  (hz:∀w,(zeroValue ee).run P w= .ok zv w) (hzd:∀F,DR F zd zv) (hx:ρ σ.sl x=some (.mp n)) (hm:look n σ.mem=some (.mp b false tp l)) (hi:ρ σ.sl i=some (.d kx)) (hl:Qd tp [kx]=true) (hr:(match Q9 l [kx]with|some v=>(v,true)|none=>(zd,false))=(r,ok))
  (hK:K ⟨(d,.tup [.d r,.d (.bl ok)])::σ.sl,σ.mem,σ.nx⟩):OpX P N o σ K:=by
 refine⟨fun hdN κ g a w hst next Q hn=>?_⟩
 have hx':=ρ_ok hst.sl hx
 generalize ha:a.eval x=p at hx'
 cases hx' with|mp _ q hq=>?_
 have hi':=ρ_ok hst.sl hi
 generalize hb:a.eval i=q at hi'
 cases hi' with|d _ _ hi'=>?_
 have hkey:XK g.F false tp [kx] q:=⟨hl,by rw[if_neg (by decide)];exact⟨kx,rfl,hi'⟩⟩
 have hik:=Yy hT hkey
 have hob:=hst.inv.obs n _ hm
 have key:∃v,(execOp a.eval o).run P w= .ok (.value (.tuple #[v,.bool ok])) w∧DR g.F r v:=by
  cases hh:g.has n with
  |false=>
   rw[hh,if_neg (by decide)]at hq
   subst hq
   have hl0:=hob.2.1 hh
   subst hl0
   have hr:(zd,false)=(r,ok):=hr
   obtain⟨hr1,hr2⟩:=u5 hr
   subst hr2
   refine⟨zv,?_,hr1▸hzd _⟩
   have hf:(Instr.findKey ke q []).run P w= .ok none w:=wv hke rfl
   simp[execOp,hop,ha,hb,Instr.lookup,run_underlying ht,wq hke hik,hf,hz,Result.andThen]
  |true=>
   rw[hh,if_pos rfl]at hq
   subst hq
   obtain⟨es,ck,h1,h2,h4⟩:=ZA.rel hob hh
   rcases QBB hT hkey l es.toList 0 h2 with⟨a1,a2,_⟩|⟨z',j,e',a1,a2,_,_,a5,_⟩
   ·rw [a1]at hr
    have hr:(zd,false)=(r,ok):=hr
    obtain⟨hr1,hr2⟩:=u5 hr
    subst hr2
    refine⟨zv,?_,hr1▸hzd _⟩
    simp[execOp,hop,ha,hb,Instr.lookup,run_underlying ht,xr h1,wq hke hik,wv hke a2,hz,Result.andThen]
   ·rw [a1]at hr
    have hr:(z',true)=(r,ok):=hr
    obtain⟨hr1,hr2⟩:=u5 hr
    subst hr2
    refine⟨e'.val,?_,hr1▸a5⟩
    simp[execOp,hop,ha,hb,Instr.lookup,run_underlying ht,xr h1,wq hke hik,wv hke a2,Result.andThen]
 obtain⟨v,hrun,hv⟩:=key
 refine QP hrun (hn g _ _ _ hK ?_)
 rw[hd]
 refine hst.put (hdN _ hd) (Ext.refl _ _) hst.inv (.tup _ _ rfl fun j hj=>?_) (S.ok_cons hst.ok (zr _) rfl (S.ok_memAll hst.ok))
 match j,hj with
 |0,_=>exact .d _ _ hv
 |1,_=>exact .d _ _ (.bl _)
end
end Go.Sy
namespace Go.Sy
section
variable {P:Program} {ti:Nat→Option Ty} {N:Nat}
def QPN(P:Program)(ti:Nat→Option Ty)(N:Nat)(ops:List Oper)(done:List Nat)(K:S→Prop):List Nat→S→Prop
 |[],_=>True
 |i::hs,σ=>Br (match ops[i]? with
  |some o=>ZP P ti N ops [o] σ fun σ'=>QI P ti N ops (i::done) σ' K
  |none=>False) (QPN P ti N ops done K hs σ)
theorem QJE{ops:List Oper}{done:List Nat}{K:S→Prop}{σ:S}:∀ {hs:List Nat},QPN P ti N ops done K hs σ→∀i∈hs,∃o,ops[i]? =some o∧ZP P ti N ops [o] σ fun σ'=>QI P ti N ops (i::done) σ' K
 |[],_,i,hi=>by cases hi
 |j::hs,h,i,hi=>by
  obtain⟨h1,h2⟩:=h
  rcases zi.1 hi with rfl|hi
  ·cases ho:ops[i]? with
   |none=>rw[ho]at h1;exact h1.elim
   |some o=>rw[ho]at h1;exact⟨o,rfl,h1⟩
  ·exact QJE h2 i hi
theorem QI.alt(hti:QM P ti){ops:List Oper}{done:List Nat}{σ:S}{K:S→Prop}(hs:List Nat)(hB:(QGp ops done hs&&hs.all (fun i=>Nat.blt i ops.length&&QDB ops done i)&& !hs.isEmpty)=true)(h:QPN P ti N ops done K hs σ):QI P ti N ops done σ K:=by
 simp only[zf,wg,zb,z6]at hB
 obtain⟨⟨b1,b2⟩,b3⟩:=hB
 refine⟨fun κ g a w hst Q hQ fuel listed hd hf=>?_⟩
 have key:∀j∈hs,∃fuel',fuel=fuel'+1∧wpOpIn (wd κ.rd) 0 P ops.toArray Q j (wpAnyIn (wd κ.rd) 0 P .any ops.toArray Q fuel' (listed.setIfInBounds j true)) a w:=by
  intro j hj
  obtain⟨b4,b5⟩:=b2 j hj
  obtain⟨o,ho,he⟩:=QJE h j hj
  have hid:j∉done:=fun h=>by unfold QDB at b5;rw[Qv.2 h]at b5;simp at b5
  have hnd:(j::done).Nodup:=ww.2 ⟨hid,hd.nd⟩
  have hltd:∀k∈j::done,k<ops.length:=fun k hk=>by
   rcases zi.1 hk with rfl|hk
   ·exact b4
   ·exact hd.lt k hk
  have hlen:=QBc ops.length (j::done) hnd hltd
  simp only[yk]at hlen
  obtain⟨fuel',rfl⟩:∃f,fuel=f+1:=⟨fuel-1,by omega⟩
  refine⟨fuel',rfl,?_⟩
  refine QAW hti ho he hst fun g' σ' a' w' hK hst'=>?_
  have hd':Dn ops.length (listed.setIfInBounds j true) (j::done):=by
   refine⟨by simp[hd.size],fun k hk b=>?_,hnd,hltd⟩
   by_cases hjk:j=k
   ·subst hjk
    rw[QU b (by rw[hd.size];exact hk)];simp
   ·rw [getD_set_ne b hjk,hd.mem k hk b,zi]
    exact⟨.inr,fun h=>h.resolve_left (wl hjk)⟩
  have hK':QI P ti N ops (j::done) σ' K:=hK
  exact hK'.run κ g' a' w' hst' Q hQ fuel' _ hd' (by simp only[yk];omega)
 cases hs with
 |nil=>cases b3
 |cons i s=>exact QG4 hd b1 i zo (b2 i zo).2 (b2 i zo).1 key
end
end Go.Sy
namespace Go.Sy
section
variable {P:Program} {ti:Nat→Option Ty} {N:Nat} {mem:List (Nat×Ob)}
theorem QPO{κ:Ctx}{g:Gh}{w:World}(hi:Inv κ g mem w){F:Nat→Nat→Option Value}(hF:∀b o v,g.F b o=some v→F b o=some v)(hO:∀n,On g mem n→∀o,F (g.blk n) o=w.cell? ⟨g.blk n,o,none⟩){l:List AV}{ds:List D}(h:FrA mem l ds):ds.length=l.length∧∀(f:Nat→Value),(∀j (h:j<l.length),AVR g l[j] (f j))→∀j (h:j<ds.length),DR F ds[j] (f j):=by
 have step:∀ {v:AV} {x:D} {t:List AV} {l:List D},(∀u,AVR g v u→DR F x u)→(l.length=t.length∧∀(f:Nat→Value),(∀j (h:j<t.length),AVR g t[j] (f j))→∀j (h:j<l.length),DR F l[j] (f j))→
   ((x::l).length=(v::t).length∧∀(f:Nat→Value),(∀j (h:j<(v::t).length),AVR g (v::t)[j] (f j))→∀j (h:j<(x::l).length),DR F (x::l)[j] (f j)):=by
  intro v x t l hx ⟨h1,h2⟩
  refine⟨by simp[h1],fun f hf j hj=>?_⟩
  cases j with
  |zero=>exact hx _ (hf 0 (by simp))
  |succ j=>exact h2 (fun j=>f (j+1)) (fun j hj=>hf (j+1) (by simpa using hj)) j (by simpa using hj)
 induction h with
 |nil=>exact⟨rfl,fun _ _ j hj=>by cases hj⟩
 |pl v x t l h k ih=>
  refine step (fun u hu=>?_) ih
  obtain⟨_,f2⟩:=Jj (g:=g) h
  exact(f2 (fun _=>u) (fun i hi'=>by
   have:i=0:=by simp at hi';omega
   subst this;exact hu) 0 (by simp)).mono hF
 |vx sz n len ty es f t l h hl k ih=>
  refine step (fun u hu=>?_) ih
  cases hu with|vx _ _ _ _ ad c hc had=>?_
  by_cases h0:len=0
  ·subst h0
   obtain rfl:=yw.1 hl
   exact .fs0 _ _ _
  ·obtain ⟨q1,q2,q3⟩:=had.pos (by omega)
   subst q2
   obtain⟨v1,v2,v3⟩:=hi.obs n _ h
   obtain⟨arr,w1,w2,w3,w4,w5,w6,w7⟩:=v3 q1
   have hon:On g mem n:=by unfold On;rw[h];exact q1
   have e0:g.hi n+0*sz=g.hi n:=by omega
   rw[e0]
   refine .fs _ _ _ _ _ _ (fun i j=>arr.getD (g.hi n+i*sz+j) undef) hl hc (fun i hi=>v1 _ (zq hi)) (fun i j hi' hj=>?_) fun i hi' j hj=>(w4 i hi' j hj).mono hF
   have hm1:i*sz+sz≤len*sz:=by
    have:(i+1)*sz≤len*sz:=zu _ (by omega)
    rw[zy]at this;omega
   rw[hl]at w3
   have:g.hi n+i*sz+j<arr.size:=by omega
   rw[hO n hon]
   simp[World.cell?,w1,Array.getD,this]
 |fp n off k size c ds t l h hle hlen hd ht ihd iht=>
  refine step (fun u hu=>?_) iht
  obtain⟨arr,T,e1,e2,e3,e4,e5,e6⟩:=hi.obs n _ h
  have hon:On g mem n:=by unfold On;rw[h];trivial
  cases hu
  refine .fp _ _ _ _ (fun j=>arr.getD (off+j) undef) hlen (fun j hj=>?_) fun j hj=>?_
  ·have:off+j<arr.size:=by omega
   rw[hO n hon]
   simp[World.cell?,e1,Array.getD,this]
  ·refine ihd.2 (fun j=>arr.getD (off+j) undef) (fun i hi'=>?_) j hj
   have hi2:i<k∧off+i<c.length:=by
    rw[z2,yg]at hi';omega
   have e:((c.drop off).take k)[i]=c[off+i]:=by rw[y8,y9]
   rw[e];exact e5 _ hi2.2
theorem QMH{α:Type}{k:Nat}:∀ {l m:List (Nat×α)} {x:α},look k (l++m)=some x→(∃p∈l,p=(k,x))∨look k m=some x
 |[],m,x,h=> .inr h
 |(j,y)::l,m,x,h=>by
  rw[qe,QC]at h
  split at h
  ·rename_i e
   have e':j=k:=by first|exact e|exact e.symm
   rw[←za h,←e']
   exact .inl ⟨_,zo,rfl⟩
  ·rcases QMH h with⟨p,h1,h2⟩|h1
   ·exact .inl ⟨p,zk _ h1,h2⟩
   ·exact .inr h1
theorem Wk.frA{σ:S}(ks:List Nat){u:AV}{x:D}(l:List (Nat×AV))(m:Nat)(hu:ZB σ.sl (ks.map fun k=>(k,u)))(h:FrA σ.mem [u] [x])(hl:ZB σ.sl l)(hp:l.all (fun p=>p.2.isP)=true):Wk N σ ⟨(ks.map fun k=>(k,AV.d x))++l,[],m⟩:=by
 refine⟨fun κ g a w hst=>?_⟩
 have hi:=hst.inv
 let F:Nat→Nat→Option Value:=fun b o=>if κ.w0.heap.size≤b∨b∈κ.mod then w.cell? ⟨b,o,none⟩else g.F b o
 have hF:∀b o v,g.F b o=some v→F b o=some v:=fun b o v hv=>by
  show(if _ then _ else _)=_
  split
  ·exact hi.frz _ _ _ hv
  ·exact hv
 have hO:∀n,On g σ.mem n→∀o,F (g.blk n) o=w.cell? ⟨g.blk n,o,none⟩:=fun n hn o=>if_pos (hi.own n hn)
 have hx:=QPO hi hF hO h
 have hpl:∀p∈l,p.2.isP=true:=fun p hp'=>by have:=zb.1 hp p hp';exact this
 refine⟨{g with F:=F},hst.size,hst.defers,fun k' v hk'=>?_,⟨fun b o v hv=>?_,fun n o ho=>(by cases ho),fun n n' _ (hn:False)=>hn.elim,hi.size,hi.pres,fun n (hn:False)=>hn.elim,fun b o v hv=>hF _ _ _ (hi.f0 _ _ _ hv),fun b o v hv=>?_,hi.os,hi.tape,hi.output,hi.dfr⟩,?_⟩
 ·rcases QMH hk' with⟨p,h1,rfl⟩|h1
  ·obtain ⟨k,hk,e⟩:=yb.1 h1
   obtain⟨rfl,rfl⟩:=u5 e
   have hku:look k σ.sl=some u:=QBC hu (yb.2 ⟨k,hk,rfl⟩)
   exact .d _ _ (hx.2 (fun _=>a.tmps.getD k undef) (fun j hj=>by
    have:j=0:=by simp at hj;omega
    subst this;exact hst.sl _ _ hku) 0 (by simp))
  ·exact ZV hF (hpl _ (QT h1)) (hst.sl _ _ (QBC hl (QT h1)))
 ·have hv:(if _ then _ else _)=some v:=hv
  split at hv
  ·exact hv
  ·exact hi.frz _ _ _ hv
 ·have hv:(if _ then _ else _)=some v:=hv
  split at hv
  ·rename_i h2;exact .inr h2
  ·exact hi.fnew _ _ _ hv
 ·refine S.ok_iff.2 ⟨fun p hp'=>?_,fun p hp'=>by cases hp'⟩
  rcases ye.1 hp' with hp'|hp'
  ·obtain ⟨k,_,rfl⟩:=yb.1 hp'
   rfl
  ·exact JS (hpl _ hp') _
end
end Go.Sy
