/- A computing verification layer for data, proved sound over the library: what a body comes to, by its literal code. Conditions: none. -/
import Derived.Test.YtikgcbioagmkkaaGreatDoorPSB
import Derived.Orders
import Derived.OpenShut
import Derived.Deep.Slices
import Derived.ChangeSame
import Derived.Carry
import Derived.Below
import Derived.WalkKit
import Derived.ProofKit
import Derived.Deep.DeepHandedRow
import Derived.Lib.LaidTab
import Derived.SevenTiedAt
import Derived.OrdersIn
import Derived.Lib.Overlaps
import Derived.Sort.Grow
set_option maxRecDepth 100000
set_option linter.all false
namespace Go.Sy
variable {k f d m i j sz t:Nat}
variable {σ:S}
variable {κ:Ctx}
variable {g:Gh}
variable {w:World}
variable {v:AV}
variable {R:AV->Prop}
variable {fn:Func}
variable {mem:List (Nat×Ob)}
variable {c:Code}
section
variable {P:Program} {ti:Nat->Option Ty} {N:Nat}
def QOQ{α:Type}(l:List (Nat×α))(k:Nat)(v:α):Prop:=
 match look k l with
 |some u=>u=v
 |none=>False
def ZT{α:Type}(l:List (Nat×α)):List (Nat×α)->Prop
 |[]=>True
 |(k,v)::t=>QOQ l k v/\ZT l t
structure En(σ τ:S):Prop where
 sl:ZT σ.sl τ.sl
 mem:ZT σ.mem τ.mem
 ok:τ.ok=true
theorem ZT.look{α:Type}{l m:List (Nat×α)}(h:ZT l m){v:α}(hk:look k m=some v):look k l=some v:=by
 induction m with
 |nil=>cases hk
 |cons p t ih=>
  obtain⟨a,b⟩:=p;obtain⟨h1,h2⟩:=h;rw[QC]at hk;by_cases hka:k=a
  ·subst hka;rw[if_pos rfl]at hk;obtain rfl:=za hk;unfold QOQ at h1;split at h1
   ·subst h1;assumption
   ·exact h1.elim
  ·rw [if_neg hka]at hk;exact ih h2 hk
theorem En.st{τ:S}(h:En σ τ){a:Act}(hst:St κ N g σ a w):St κ N g τ a w:=by
 have on:∀n,On g τ.mem n->On g σ.mem n:=λn hn=>by
  unfold On at hn⊢;cases hl:look n τ.mem with
  |none=>rw[hl]at hn;exact hn.elim
  |some ob=>rw[hl]at hn;rw[h.mem.look hl];exact hn
 exact⟨hst.size,hst.defers,λk v hk=>hst.sl k v (h.sl.look hk),⟨hst.inv.frz,λn ob hn=>hst.inv.obs n ob (h.mem.look hn),λn m hnm h1 h2=>hst.inv.inj n m hnm (on n h1) (on m h2),hst.inv.size,hst.inv.pres,λn hn=>hst.inv.own n (on n hn),hst.inv.f0,hst.inv.fnew,hst.inv.os,hst.inv.tape,hst.inv.output,hst.inv.dfr⟩,h.ok⟩
def QT1{α:Type}(I:α->Prop)(A:α->S)(μ:α->Nat)(Q:Exit->S->Prop)(x:α):Exit->S->Prop
 | .normal,σ=>∃y,I y/\μ y<μ x/\En σ (A y)
 |e,σ=>Q e σ
theorem XS{F:Fence}{n:Nat}{c:Code}{Q Q':Exit->Act->World->Prop}(hq:∀e a w,Q e a w->Q' e a w):∀(m:Nat) (a:Act) (w:World),Code.roundsIn F n P c Q m a w->Code.roundsIn F n P c Q' m a w
 |0,_,_,h=>h.elim
 |m+1,a,w,h=>by
  rw[roundsIn_succ]at h⊢;refine wpIn_mono h λe a' w' h=>?_;cases e with
  |normal=>exact XS hq m a' w' h
  |_=>exact hq _ _ _ h
theorem QT{α:Type}{body:Code}{Q:Exit->S->Prop}(hti:QU P ti)(I:α->Prop)(A:α->S)(μ:α->Nat)(x:α)(hx:I x)(h0:En σ (A x))(step:∀x,I x->vc P ti N body (QT1 I A μ Q x) (A x)):Q7 P N body Q σ:=by
 refine⟨λκ g a w hr hst=>wpIn_loop_rounds (μ x+1) ?_⟩;have key:∀n x (κ:Ctx) g a w,(κ.rd=none\/Zs body=true)->μ x<n->I x->St κ N g (A x) a w->Code.roundsIn (wd κ.rd) 0 P body (QBV κ N Q) n a w:=by
  intro n;induction n with
  |zero=>intro x κ g a w _ h;omega
  |succ n ih=>
   intro x κ g a w hr hlt hI hst;rw[roundsIn_succ];refine wpIn_mono (Z0 hti body _ _ (step x hI) κ g a w hr hst) λe a' w' ⟨l,g',σ',hl,hq,hst'⟩=>?_;cases e with
   |normal=>
    obtain⟨y,hy,hmu,hen⟩:=hq;exact XS (λe a w hp=>hp.app hl) n a' w' (ih y (κ.add l) g' a' w' hr (by omega) hy (hen.st hst'))
   |_=>exact⟨l,g',σ',hl,hq,hst'⟩
 exact key _ x κ g a w hr (by omega) hx (h0.st hst)
def Yb(ti:Nat->Option Ty):List ResultVar->S->Option (List AV)
 |[],_=>some []
 | .tmp t::r,σ=>match look t σ.sl,Yb ti r σ with
  |some v,some l=>some (v::l)
  |_,_=>none
 | .cell t ty::r,σ=>match look t σ.sl,ti ty,Yb ti r σ with
  |some (.ptr n off),some tt,some l=>match look n σ.mem with
   |some (.cells size c)=>bif Nat.ble (off+tt.size) size&&Nat.blt off size then some (ldA tt off c::l)else none
   |_=>none
  |_,_,_=>none
def Yi(l:List AV):AV:=
 match l with
 |[v]=>v
 |vs=> .tup vs
def QQO(mem:List (Nat×Ob))(v:AV)(R:AV->Prop):Prop:=
 match v with
 | .ms sz n off len cap=>match look n mem with
  |some (.cells size c)=>∃es:List (List D),(off+len*sz<=size/\es.length=len/\(∀x∈es,x.length=sz)/\(c.drop off).take (len*sz)=es.flatten.map AV.d)/\R (.d (.fs sz es))
  |_=>False
 | .ptr n off=>match look n mem with
  |some (.cells size c)=>∃ds:List D,(off<=size/\c.drop off=ds.map AV.d)/\R (.d (.fp (size-off) ds))
  |_=>False
 | .vx sz n i len=>match look n mem with
  |some (.vec _ sz' es _)=>bif Nat.beq sz' sz then i+len<=es.length/\JC ((es.drop i).take len) λl=>R (.d (.fs sz l))else False
  |_=>False
 |v=>match v.pure with
  |some u=>R u
  |none=>False
def fin(ti:Nat->Option Ty)(rs:List ResultVar)(R:AV->Prop):Exit->S->Prop
 | .ret,σ| .normal,σ=>match Yb ti rs σ with
  |some l=>QQO σ.mem (Yi l) R
  |none=>False
 |_,_=>False
def QK1(tmps:Array Value):ResultVar->Sem Value
 | .tmp t=>pure (tmps.getD t undef)
 | .cell x t=>do loadVar t (<-asAddr (tmps.getD x undef))
theorem QBW(fn:Func)(tmps:Array Value):results fn tmps=(do
  let vs <-fn.results.mapM (QK1 tmps)
  pure (if h:vs.size=1 then vs[0]else .tuple vs)):=rfl
theorem QB7(hti:QU P ti){κ:Ctx}{g:Gh}{σ:S}{a:Act}{w:World}(h:St κ N g σ a w):∀ {rs:List ResultVar} {l:List AV},Yb ti rs σ=some l->∃vs:List Value,vs.length=l.length/\(∀j (h:j<l.length) (h':j<vs.length),AVR g l[j] vs[j])/\
  (rs.mapM (QK1 a.tmps)).run P w= .ok vs w
 |[],l,hl=>by obtain rfl:=za hl;exact⟨[],rfl,(λj h=>by cases h),rfl⟩
 | .tmp t::r,l,hl=>by
  simp only[Yb]at hl;split at hl
  ·rename_i v l' hv hl';obtain rfl:=za hl;obtain⟨vs,h1,h2,h3⟩:=QB7 hti h hl';refine⟨a.tmps.getD t undef::vs,by simp[h1],λj hj hj'=>?_,?_⟩
   ·cases j with
    |zero=>exact h.sl t v hv
    |succ j=>exact h2 j (by simpa using hj) (by simpa using hj')
   ·simp only[List.mapM_cons,QK1,zp,zq,zg,h3]
  ·cases hl
 | .cell t ty::r,l,hl=>by
  simp only[Yb]at hl;split at hl
  ·rename_i n off tt l' hv ht hl';split at hl
   ·rename_i size c hm;cases hb:(Nat.ble (off+tt.size) size&&Nat.blt off size)with
    |false=>rw[hb]at hl;cases hl
    |true=>
     rw[hb]at hl;obtain rfl:=za hl;simp only[zf,yc]at hb;have hb1:=yg hb.1;obtain⟨vs,h1,h2,h3⟩:=QB7 hti h hl';obtain⟨u,i,ht⟩:=QE (hti _ _ ht);have hp:=h.sl t _ hv;generalize hq:a.tmps.getD t undef=q at hp;cases hp with|ptr=>?_
     obtain⟨arr,T,e1,e2,e3,e4,e5,e6⟩:=h.inv.obs n _ hm;have hcell:∀j,j<size->w.cell? ⟨g.blk n,j,none⟩=some (arr.getD j undef):=λj hj=>by
      simp[World.cell?,e1,Array.getD,show j<arr.size by omega]
     have hld:=JQ ht (f:=λj=>arr.getD (off+j) undef) (w:=w) (b:=g.blk n) (off:=off) (λj hj=>hcell _ (by omega)) (hcell _ hb.2);refine⟨(if tt.kd.agg then .agg ((List.range tt.size).map λj=>arr.getD (off+j) undef).toArray else arr.getD (off+0) undef)::vs,by simp[h1],λj hj hj'=>?_,?_⟩
     rotate_left
     ·simp only[List.mapM_cons,QK1,zp,hq,asAddr,zq,zg,hld,h3]
     ·cases j with
      |zero=>exact QJa (f:=λj=>arr.getD j undef) e4 e5 (by omega) (by omega)
      |succ j=>exact h2 j (by simpa using hj) (by simpa using hj')
   ·cases hl
  ·cases hl
def ZL(g:Gh)(n size:Nat)(arr:Array Value):Nat->Nat->Option Value:=λb o=>if b=g.blk n then(if o<size then some (arr.getD o undef)else none)else g.F b o
theorem QEe{sz:Nat}:∀ {es:List (List D)},(∀x∈es,x.length=sz)->∀(i j:Nat) (h:i<es.length) (hj:j<es[i].length),es.flatten[i*sz+j]? =some es[i][j]
 |[],_,i,j,h,_=>by cases h
 |x::t,hs,i,j,h,hj=>by
  have hx:x.length=sz:=hs x zo;cases i with
  |zero=>
   simp only[wp]at hj;simp only[vy,kr,y5];rw[ko hj];simp
  |succ i=>
   simp only[uh]at hj;have:=QEe (es:=t) (λy hy=>hs y (zk _ hy)) i j (by simpa using h) hj;simp only[vy];rw[um (by rw[hx,z2];omega),hx,show(i+1)*sz+j-sz=i*sz+j by rw[z2];omega,this];simp
theorem QQP{a:Act}(h:St κ N g σ a w){u:Value}(hv:AVR g v u)(hf:QQO σ.mem v R):
  ∃v' F',R v'/\v'.isP=true/\AVR {g with F:=F'} v' u/\(∀b o x,g.F b o=some x->F' b o=some x)/\(∀b o x,F' b o=some x->g.F b o=some x\/(κ.w0.heap.size<=b\/b∈κ.mod))/\(∀b o x,F' b o=some x->w.cell? ⟨b,o,none⟩=some x):=by
 have freeze:∀ {n size:Nat} {c:List AV},look n σ.mem=some (.cells size c)->∃arr:Array Value,arr.size=size/\c.length=size/\(∀j (h:j<c.length),AVR g c[j] (arr.getD j undef))/\
   (∀b o x,g.F b o=some x->ZL g n size arr b o=some x)/\(∀b o x,ZL g n size arr b o=some x->g.F b o=some x\/(κ.w0.heap.size<=b\/b∈κ.mod))/\(∀b o x,ZL g n size arr b o=some x->w.cell? ⟨b,o,none⟩=some x):=by
  intro n size c hm;obtain⟨arr,T,e1,e2,e3,e4,e5,e6⟩:=h.inv.obs n _ hm;have hon:On g σ.mem n:=by unfold On;rw[hm];trivial
  refine⟨arr,e2,e3,e5,λb o x hx=>?_,λb o x hx=>?_,λb o x hx=>?_⟩
  ·unfold ZL;by_cases hb:b=g.blk n
   ·subst hb;rw[e6]at hx;cases hx
   ·rw [if_neg hb];exact hx
  ·unfold ZL at hx;by_cases hb:b=g.blk n
   ·subst hb;exact .inr (h.inv.own n hon)
   ·rw [if_neg hb]at hx;exact .inl hx
  ·unfold ZL at hx;by_cases hb:b=g.blk n
   ·subst hb;rw[if_pos rfl]at hx;by_cases ho:o<size
    ·rw [if_pos ho]at hx;obtain rfl:=za hx;simp[World.cell?,e1,Array.getD,show o<arr.size by omega]
    ·rw [if_neg ho]at hx;cases hx
   ·rw [if_neg hb]at hx;exact h.inv.frz b o x hx
 unfold QQO at hf;split at hf
 ·rename_i sz n off len cap;split at hf
  ·rename_i size c hm;obtain⟨es,⟨h1,h2,h3,h4⟩,hR⟩:=hf;obtain⟨arr,a1,a2,a3,f1,f2,f3⟩:=freeze hm;cases hv with|ms _ _ _ _ _ ad had hc=>?_
   refine⟨_,_,hR,rfl,.d _ _ ?_,f1,f2,f3⟩;by_cases h0:len=0
   ·subst h0;obtain rfl:=yx.1 h2;exact .fs0 _ _ _
   ·obtain rfl:=had (by omega);refine .fs _ _ _ _ _ _ (λi j=>arr.getD (off+i*sz+j) undef) h2 hc (λi hi=>h3 _ (zm hi)) (λi j hi hj=>?_) λi hi j hj=>?_
    ·have hm1:i*sz+sz<=len*sz:=by
      have:(i+1)*sz<=len*sz:=zw _ (by omega);rw[z2]at this;omega
     show ZL g n size arr (g.blk n) (off+i*sz+j)=_;unfold ZL;rw[if_pos rfl,if_pos (by omega)]
    ·have hj':j<sz:=by have:=h3 _ (zm hi);omega
     have hm1:i*sz+sz<=len*sz:=by
      have:(i+1)*sz<=len*sz:=zw _ (by omega);rw[z2]at this;omega
     have hget:=QEe h3 i j hi hj;have hcj:c[off+(i*sz+j)]? =some (.d es[i][j]):=by
      have:=congrArg (λz=>z[i*sz+j]?) h4;simp only[wb,vt,yv,hget,ug]at this;rw[if_pos (by omega)]at this;exact this
     have hlt:off+(i*sz+j)<c.length:=by omega
     have hce:c[off+(i*sz+j)]= .d es[i][j]:=by rw[zj hlt]at hcj;exact za hcj
     have hr:=a3 _ hlt;rw[hce]at hr;rw[<-wl]at hr;cases hr with|d _ _ hr=>exact hr.mono f1
  ·exact hf.elim
 ·rename_i n off;split at hf
  ·rename_i size c hm;obtain⟨ds,⟨h1,h2⟩,hR⟩:=hf;obtain⟨arr,a1,a2,a3,f1,f2,f3⟩:=freeze hm;cases hv with|ptr=>?_
   have hlen:ds.length=size-off:=by
    have:=congrArg List.length h2;simp only[ym,zb]at this;omega
   refine⟨_,_,hR,rfl,.d _ _ (.fp _ _ _ _ (λj=>arr.getD (off+j) undef) hlen (λj hj=>?_) λj hj=>?_),f1,f2,f3⟩
   ·show ZL g n size arr (g.blk n) (off+j)=_;unfold ZL;rw[if_pos rfl,if_pos (by omega)]
   ·have hcj:c[off+j]? =some (.d ds[j]):=by
     have:=congrArg (λz=>z[j]?) h2;simp only[vt,yv,zj hj,ug]at this;exact this
    have hlt:off+j<c.length:=by omega
    have hce:c[off+j]= .d ds[j]:=by rw[zj hlt]at hcj;exact za hcj
    have hr:=a3 _ hlt;rw[hce]at hr;cases hr with|d _ _ hr=>exact hr.mono f1
  ·exact hf.elim
 ·rename_i sz n i len;split at hf
  ·rename_i t sz' es fl hm;obtain⟨hb,hle,hR⟩:=Qf hf;obtain rfl:=zh hb;have hR:=hR.out;have hlen:((es.drop i).take len).length=len:=by simp;omega
   obtain⟨v1,v2,v3⟩:ZM g w n t sz' es fl:=h.inv.obs n _ hm;cases hv with|vx _ _ _ _ ad c hc had=>?_
   by_cases h0:len=0
   ·subst h0;refine⟨_,g.F,hR,rfl,.d _ _ ?_,λ_ _ _ h=>h,λ_ _ _ h=> .inl h,h.inv.frz⟩;rw[List.take_zero];exact .fs0 _ _ _
   ·obtain ⟨hh,rfl,hcp⟩:=had.pos (by omega);obtain⟨arr,e1,e2,e3,e4,e5,_,_⟩:=v3 hh;have hon:On g σ.mem n:=by unfold On;rw[hm];exact hh
    have hbd:(i+len)*sz'<=g.cp n:=xy (zw _ hle) e3;rw[z2]at hbd;refine⟨_,ZL g n arr.size arr,hR,rfl,.d _ _ ?_,λb o x hx=>?_,λb o x hx=>?_,λb o x hx=>?_⟩
    ·refine .fs _ _ _ _ _ _ (λi' j=>arr.getD (g.hi n+i*sz'+i'*sz'+j) undef) hlen hc (λi' hi'=>v1 _ (xx (xg (zm hi')))) (λi' j hi' hj=>?_) λi' hi' j hj=>?_
     ·have hm1:i'*sz'+sz'<=len*sz':=by
       have:(i'+1)*sz'<=len*sz':=zw _ (by omega);rw[z2]at this;omega
      show ZL g n arr.size arr (g.blk n) (g.hi n+i*sz'+i'*sz'+j)=_;unfold ZL;rw[if_pos rfl,if_pos (by omega)]
     ·have hk':i+i'<es.length:=by omega
      have hke:((es.drop i).take len)[i']=es[i+i']:=by simp
      have hj':j<es[i+i'].length:=by rw[<-hke];exact hj
      have:=e4 (i+i') hk' j hj';rw[z2]at this;rw[show g.hi n+i*sz'+i'*sz'+j=g.hi n+(i*sz'+i'*sz')+j by omega];simp only[hke];refine this.mono λb o x hx=>?_;unfold ZL;by_cases hb:b=g.blk n
      ·subst hb;rw[e5]at hx;cases hx
      ·rw [if_neg hb];exact hx
    ·unfold ZL;by_cases hb:b=g.blk n
     ·subst hb;rw[e5]at hx;cases hx
     ·rw [if_neg hb];exact hx
    ·unfold ZL at hx;by_cases hb:b=g.blk n
     ·subst hb;exact .inr (h.inv.own n hon)
     ·rw [if_neg hb]at hx;exact .inl hx
    ·unfold ZL at hx;by_cases hb:b=g.blk n
     ·subst hb;rw[if_pos rfl]at hx;by_cases ho:o<arr.size
      ·rw [if_pos ho]at hx;obtain rfl:=za hx;simp[World.cell?,e1,Array.getD,ho]
      ·rw [if_neg ho]at hx;cases hx
     ·rw [if_neg hb]at hx;exact h.inv.frz b o x hx
  ·exact hf.elim
 ·split at hf
  ·rename_i v' hv';obtain⟨k1,k2⟩:=QQC hv' hv;exact⟨v',g.F,hf,k2,k1,λ_ _ _ h=>h,λ_ _ _ h=> .inl h,h.inv.frz⟩
  ·exact hf.elim
theorem QOR(hti:QU P ti){a:Act}(h:St κ N g σ a w){e:Exit}(he:e= .ret\/e= .normal)(hf:fin ti fn.results.toList R e σ):
  ∃v u F',(R v/\v.isP=true/\AVR {g with F:=F'} v u/\(∀b o x,g.F b o=some x->F' b o=some x)/\(∀b o x,F' b o=some x->g.F b o=some x\/(κ.w0.heap.size<=b\/b∈κ.mod))/\(∀b o x,F' b o=some x->w.cell? ⟨b,o,none⟩=some x))/\(results fn a.tmps).run P w= .ok u w:=by
 have hf':match Yb ti fn.results.toList σ with
  |some l=>QQO σ.mem (Yi l) R
  |none=>False:=by rcases he with rfl|rfl<;>exact hf
 split at hf'
 ·rename_i l hl;obtain⟨vs,h1,h2,h3⟩:=QB7 hti h hl;have hu:AVR g (Yi l) (if hs:vs.toArray.size=1 then vs.toArray[0]else .tuple vs.toArray):=by
   match l,vs,h1,h2 with
   |[x],[y],_,h2=>simpa [Yi]using h2 0 (by simp) (by simp)
   |[],[],_,_=>exact .tup _ _ rfl λj hj=>by cases hj
   |x::x'::l,y::y'::vs,h1,h2=>
    simp only[Yi];rw[dif_neg (by simp)];refine .tup _ _ (by simpa using h1) λj hj=>?_;have hj':j<(y::y'::vs).length:=by rw[h1];exact hj
    have:=h2 j hj hj';have e:(y::y'::vs).toArray.getD j undef=(y::y'::vs)[j]:=by
     rw[Array.getD,dif_pos (by simpa using hj')];simp[Array.getInternal]
    rw[e];exact this
  obtain⟨v',F',hall⟩:=QQP h hu hf';refine⟨v',_,F',hall,?_⟩;rw[QBW,jt];simp only[zp,Vn,h3,zg,zq]
 ·exact hf'.elim
def idx:Nat->List AV->List (Nat×AV)
 |_,[]=>[]
 |k,v::t=>(k,v)::idx (k+1) t
theorem QB8:∀(l:List AV) (k j:Nat) (v:AV),look j (idx k l)=some v->∃h:j-k<l.length,k<=j/\l[j-k]=v
 |[],k,j,v,h=>by cases h
 |x::t,k,j,v,h=>by
  simp only[idx]at h;rw[QC]at h;by_cases hj:j=k
  ·subst hj;rw[if_pos rfl]at h;obtain rfl:=za h;exact⟨by simp,zt _,by simp⟩
  ·rw [if_neg hj]at h;obtain⟨h1,h2,h3⟩:=QB8 t (k+1) j v h;refine⟨by simp;omega,by omega,?_⟩;have e:j-k=(j-(k+1))+1:=by omega
   simp only[e,uh];exact h3
theorem QAu:∀(l:List AV) (k:Nat) (p:Nat×AV),p∈idx k l->p.2∈l
 |x::t,k,p,h=>by
  simp only[idx,zi]at h;rcases h with rfl|h
  ·exact zo
  ·exact zk _ (QAu t _ p h)
theorem QEf{D b:Nat}{arr:Array Value}{T:TypeId}{fz:Nat×Nat}(hD:w.heap[D]? =some (.deferred (some [])))(h:w.heap[b]? =some (.cells arr T fz)):b≠D:=by
 rintro rfl;rw[hD]at h;cases h
theorem Inv.shut{D:Nat}(hi:Inv κ g mem w)(hD:w.heap[D]? =some (.deferred (some [])))(hge:κ.w0.heap.size<=D){l df':List Nat}(hsub:∀x∈l,x∈κ.dfb/\x≠D):
  Inv {κ with df:=df',dfb:=l} g mem (w.putObj D (.deferred none)):=by
 refine⟨λb o v h=>?_,λn ob hn=>?_,hi.inj,by rw[Wd];exact hi.size,λb hb hm=>?_,hi.own,hi.f0,hi.fnew,hi.os,hi.tape,hi.output,λx hx=>?_⟩
 ·have hc:=hi.frz b o v h;have hne:b≠D:=by
   rintro rfl;simp only[World.cell?,hD]at hc;cases hc
  simp only[World.cell?]at hc⊢;rw[yh hne];exact hc
 ·have hob:=hi.obs n ob hn;cases ob with
  |cells size c=>
   obtain⟨arr,T,e1,er⟩:=hob;exact⟨arr,T,by rw[yh (QEf hD e1)];exact e1,er⟩
  |tag m' t'=>
   obtain⟨arr,fz,e⟩:=hob;exact⟨arr,fz,by rw[yh (λhb=>by rw[hb,hD]at e;cases e)];exact e⟩
  |vec t' sz' es' f'=>exact ZM.mono hob (λ_ _ _ h=>h) rfl rfl rfl rfl (λhh=>by obtain⟨arr,e1,_⟩:=hob.2.2 hh;exact yh (QEf hD e1)) (λ_ _ h=>h)
  |tail=>
   refine⟨λhh=>?_,hob.2⟩;obtain⟨arr,T,e1,er⟩:=hob.1 hh;exact⟨arr,T,by rw[yh (QEf hD e1)];exact e1,er⟩
  |frame sz l=>exact hob
  |loop k ps asg body st pd=>
   obtain⟨eb,fn,D',e⟩:=hob;refine⟨eb,fn,D',?_⟩;rw[yh (λhb=>by rw[hb,hD]at e;cases e)];exact e
  |mp b ag tp l=>exact ZQ.mono hob (λ_ _ _ h=>h) rfl rfl rfl rfl (λhh=>by obtain⟨arr,e1,_⟩:=hob.2.2 hh;exact yh (λhb=>by rw[hb,hD]at e1;cases e1)) (λ_ _ h=>h)
 ·rw [yh (by have:b<κ.w0.heap.size:=hb;omega)];exact hi.pres b hb hm
 ·obtain ⟨h1,h2⟩:=hsub x hx;rw[yh h2];exact hi.dfr x h1
theorem QIX{fn:Func}{tmps:Array Value}{R:Ending->World->Prop}{g:Gh}{mem:List (Nat×Ob)}{base:List Nat}:∀(l:List Nat) (κ:Ctx) (w:World),l.Nodup->(∀D∈l,D∈κ.dfb/\D∉base/\κ.w0.heap.size<=D)->(∀D∈base,D∈κ.dfb)->Inv κ g mem w->
  (∀w',Inv {κ with df:=[],dfb:=base} g mem w'->∃v,(results fn tmps).run P w'= .ok v w'/\R (.returned v) w')->LeavesInM (wd none) 0 P fn tmps R (l.map mark) .returning w
 |[],κ,w,_,_,hb,hi,hR=>hR w ⟨hi.frz,hi.obs,hi.inj,hi.size,hi.pres,hi.own,hi.f0,hi.fnew,hi.os,hi.tape,hi.output,λD hD=>hi.dfr D (hb D hD)⟩
 |D::l,κ,w,hn,hl,hb,hi,hR=>by
  obtain⟨h1,h2⟩:=vo.1 hn;obtain⟨k1,k2,k3⟩:=hl D zo;have hD:=hi.dfr D k1;refine⟨by simp,.inl ⟨D,w.putObj D (.deferred none),rfl,run_takeDeferred hD,?_⟩⟩;refine QIX l {κ with df:=[],dfb:=l++base} _ h2 (λx hx=>⟨vu _ hx,(hl x (zk _ hx)).2⟩) (λx hx=>vm _ hx) (hi.shut hD k3 λx hx=>?_) hR;rcases yd.1 hx with hx|hx
  ·exact ⟨(hl x (zk _ hx)).1,λe=>h1 (e▸hx)⟩
  ·exact ⟨hb x hx,λe=>k2 (e▸hx)⟩
theorem YR{Q:Exit->S->Prop}{vs:Array Value}{R:Ending->World->Prop}(hti:QU P ti)(hf:P.funcs[f]? =some fn)(hb:fn.body=some c)(hN:fn.ntmps=N)(hrd:κ.rd=none)(hdf:κ.df=[])
  (h:vc P ti N c Q σ) (hst:St κ N g σ {tmps:=vs++Array.replicate (fn.ntmps-vs.size) undef,defers:=[]} w) (hQ:∀e σ,Q e σ->e= .ret\/e= .normal)
  (hR:∀e g' σ' a' w',Q e σ'->St κ N g' σ' a' w'->∃v,(results fn a'.tmps).run P w'= .ok v w'/\R (.returned v) w'):Calls P f vs w R:=by
 have hw:Fence.wide=wd κ.rd:=by rw[hrd];rfl
 refine callsIn_wide (n:=0).1 ?_;rw[hw];refine callsIn_of_wp_marks hf hb trivial (wpIn_mono (Z0 hti c Q σ h κ g _ w (.inl hrd) hst) λe a' w' ⟨l,g',σ',hl,hq,hst'⟩=>?_) hrd;have main:LeavesInM (wd κ.rd) 0 P fn a'.tmps R a'.defers .returning w':=by
  have hd:a'.defers=l.map mark:=by
   have:=hst'.defers;simpa [Ctx.add,hdf]using this
  rw[hd,hrd];refine QIX (g:=g') (mem:=σ'.mem) (base:=κ.dfb) l (κ.add l) w' hl.1 (λD hD=>⟨vu _ hD,(hl.2 D hD).1,(hl.2 D hD).2⟩) (λD hD=>vm _ hD) hst'.inv λw'' hi=>?_;have ek:({κ.add l with df:=[],dfb:=κ.dfb}:Ctx)=κ:=by
   cases κ;simp only[Ctx.add]at hdf⊢;subst hdf;rfl
  rw[ek]at hi;exact hR e g' σ' {a' with defers:=[]} w'' hq ⟨hst'.size,by rw[hdf];rfl,hst'.sl,hi,hst'.ok⟩
 rcases hQ e σ' hq with rfl|rfl
 ·exact main
 ·exact main
theorem FnC.intro{args:List AV}{r:AV}(hti:QU P ti)(hf:P.funcs[f]? =some fn)(hb:fn.body=some c)(hN:fn.ntmps=N)(hcall:∀(vs:Array Value) (w:World),(callFunc f vs).run P w= .ok (.enter f vs) w)
  (hargs:args.all AV.isP=true) (hlen:args.length<=N) (hr:r.isP=true) (h:vc P ti N c (fin ti fn.results.toList (· =r)) ⟨idx 0 args,[],0⟩):FnC P f args r:=by
 refine⟨hr,λg w vs hfz hG hsz hav=> .inl ⟨hcall vs w,?_⟩⟩;have hst:St ⟨w,g.F,[],none,[],[],λ_=> #[],λ_=>0,hG⟩ N {g with has:=λ_=>false} ⟨idx 0 args,[],0⟩ {tmps:=vs++Array.replicate (fn.ntmps-vs.size) undef,defers:=[]} w:=by
  refine⟨by simp;omega,rfl,λk v hk=>?_,⟨hfz,(λn ob hn=>by cases hn),(λn m _ (h1:On _ [] n) _=>h1.elim),zt _,λ_ _ _=>rfl,(λn (h:On _ [] n)=>h.elim),λ_ _ _ h=>h,λ_ _ _ h=> .inl h,rfl,rfl,rfl,λD hD=>by cases hD⟩,?_⟩
  ·obtain ⟨h1,_,h3⟩:=QB8 args 0 k v hk;simp only[qk]at h1 h3;subst h3;have:=hav k h1;have e:(vs++Array.replicate (fn.ntmps-vs.size) undef).getD k undef=vs.getD k undef:=by
    have hk1:k<vs.size:=by omega
    rw[Array.getD,dif_pos (by simp;omega),Array.getD,dif_pos hk1];exact wg hk1
   simp only[e];exact Zw (g:=g) (g':= {g with has:=λ_=>false}) (λ_ _ _ h=>h) (QC2 hargs k h1) this
  ·rw [S.ok_iff];exact⟨λp hp=>QAN (ze.1 hargs _ (QAu _ _ _ hp)) _,(λp hp=>by cases hp)⟩
 refine YR hti hf hb hN rfl rfl h hst (λe σ hq=>?_) λe g' σ' a' w' hq hst'=>?_
 ·cases e with
  |ret=>exact .inl rfl
  |normal=>exact .inr rfl
  |_=>exact hq.elim
 ·have he:e= .ret\/e= .normal:=by
   cases e with
   |ret=>exact .inl rfl
   |normal=>exact .inr rfl
   |_=>exact hq.elim
  obtain⟨v,u,F',⟨rfl,k1,k2,f1,f2,f3⟩,k3⟩:=QOR hti hst' he hq;have hi:=hst'.inv;have hnew:∀b o v,F' b o=some v->g.F b o=some v\/w.heap.size<=b:=λb o v h=>by
   rcases f2 b o v h with h|h|h
   ·rcases hi.fnew b o v h with h|h|h
    ·exact .inl h
    ·exact .inr h
    ·cases h
   ·exact .inr h
   ·cases h
  exact⟨u,k3,u,{g' with F:=F'},rfl,k2,λb o v h=>f1 b o v (hi.f0 b o v h),hnew,f3,hi.size,λb hb=>hi.pres b hb (by simp),hi.os,hi.tape,hi.output⟩
end
theorem QQQ{P:Program}{L:List (Nat×Ty)}(h:L.map (λp=>YZ P p.1)=L.map (λp=>some p.2)):QU P (λt=>look t L):=by
 intro t ty ht;have hm:=Qb ht;obtain⟨i,hi,he⟩:=yy.1 hm;have:=congrArg (λl=>l[i]?) h;simp only[yv,zj hi,ug,he,yo]at this;exact this
variable {sl:List (Nat×AV)}
variable {ops:List Oper}
variable {ms:List Nat}
variable {o:Oper}
variable {Q:Exit->Act->World->Prop}
variable {next:Act->World->Prop}
section
variable {P:Program} {ti:Nat->Option Ty} {N:Nat}
def reads(all:List Oper)(o:Oper):List Nat:=
  (o.op.operands.toList.filterMap fun| .tmp t=>some t|_=>none)++
  (match o.guard with
   |some (j,_)=>(Qq all j).toList
   |none=>[])
def Xf(k:Nat):List Nat->Bool
 |[]=>false
 |x::t=>Nat.beq k x||Xf k t
theorem ZF{l:List Nat}:Xf k l=true↔k∈l:=by
 induction l with
 |nil=>simp[Xf]
 |cons x t ih=>simp[Xf,ih]
def QOS(acc:List Nat)(i:Nat):List Edge->Option Nat
 |[]=>some 0
 |e::t=>match QOS acc i t with
  |some m=>bif Region.binds .any e then(bif Nat.blt e.on i then some (Nat.lor (Nat.lor m (Nat.shiftLeft 1 e.on)) (acc.getD e.on 0))else none)else some m
  |none=>none
def QFD:List Nat->Nat->List Oper->Option (List Nat)
 |acc,_,[]=>some acc
 |acc,i,o::t=>match QOS acc i o.after.toList with
  |some m=>QFD (acc++[m]) (i+1) t
  |none=>none
def bit(m i:Nat):Bool:=Nat.testBit m i
def QEg(all:List Oper)(ms:List Nat)(j d:Nat):Nat->List Oper->Bool
 |_,[]=>true
 |i,o::t=>(!(Xf d (reads all o))||(bif Nat.blt j i then bit (ms.getD i 0) j else bif Nat.blt i j then bit (ms.getD j 0) i else false))&&QEg all ms j d (i+1) t
def QGv(d:Nat):List Oper->Bool
 |[]=>true
 |o::t=>(match o.dst with|some e=> !(Nat.beq d e)|none=>true)&&QGv d t
def X8(all:List Oper)(pre:List Oper)(ms:List Nat):Nat->List Oper->Bool
 |_,[]=>true
 |j,o::t=>(match o.dst with
  |some d=>QGv d t&&QEg all ms j d 0 pre
  |none=>false)&&X8 all pre ms (j+1) t
def forced(ms:List Nat)(n:Nat):Nat->Nat->Bool
 |_,0=>true
 |i,k+1=>Nat.beq (Nat.land (ms.getD i 0) (2 ^ i-1)) (2 ^ i-1)&&forced ms n (i+1) k
def QCf(ops:List Oper)(m:Nat):Bool:=
 match QFD [] 0 ops with
 |some ms=>Nat.ble m ops.length&&X8 ops (ops.take m) ms 0 (ops.take m)&&forced ms ops.length m (ops.length-m)
 |none=>false
def Yl(P:Program)(all:List Oper)(mem:List (Nat×Ob))(nx:Nat)(sl:List (Nat×AV))(o:Oper)(v:AV):Prop:=
 match o.guard with
 |none=>ZH P mem nx (ρ sl) o v
 |some (j,c)=>∃e,Qq all j=some e/\((∃b,look e sl=some (.d (.bl b))/\(b=c->ZH P mem nx (ρ sl) o v)/\(b≠c->v= .tup []))\/(look e sl=some (.tup [])/\v= .tup []))
def JS(P:Program)(ti:Nat->Option Ty)(N:Nat)(all:List Oper):List Oper->S->(S->Prop)->Prop
 |[],σ,K=>K σ
 |o::r,σ,K=>match o.dst with
  |none=>False
  |some d=>bif Nat.blt d N then(match o.guard with
   |none=>evV P ti σ.mem (ρ σ.sl) o λv=>JS P ti N all r ⟨(d,v)::σ.sl,σ.mem,σ.nx⟩ K
   |some (j,c)=>match Qq all j with
    |some e=>match look e σ.sl with
     |some (.d (.bl b))=>bif c then
       Spl b (evV P ti σ.mem (ρ ((e,.d (.bl true))::σ.sl)) o λv=>JS P ti N all r ⟨(d,v)::(e,.d (.bl true))::σ.sl,σ.mem,σ.nx⟩ K) (JS P ti N all r ⟨(d,.tup [])::(e,.d (.bl false))::σ.sl,σ.mem,σ.nx⟩ K)
      else
       Spl b (JS P ti N all r ⟨(d,.tup [])::(e,.d (.bl true))::σ.sl,σ.mem,σ.nx⟩ K) (evV P ti σ.mem (ρ ((e,.d (.bl false))::σ.sl)) o λv=>JS P ti N all r ⟨(d,v)::(e,.d (.bl false))::σ.sl,σ.mem,σ.nx⟩ K)
     |some (.tup [])=>JS P ti N all r ⟨(d,.tup [])::σ.sl,σ.mem,σ.nx⟩ K
     |_=>False
    |none=>False)else False
def QCg(P:Program)(all:List Oper)(mem:List (Nat×Ob))(nx N:Nat):List Oper->List AV->List (Nat×AV)->List (Nat×AV)->Prop
 |[],[],sl,sl'=>sl=sl'
 |o::r,v::vs,sl,sl'=>∃sl1 d,(∀k,look k sl1=look k sl)/\o.dst=some d/\d<N/\v.lt nx=true/\Yl P all mem nx sl1 o v/\QCg P all mem nx N r vs ((d,v)::sl1) sl'
 |_,_,_,_=>False
theorem XB(h:look d sl=some v)(k:Nat):look k ((d,v)::sl)=look k sl:=by
 rw[QC];by_cases hk:k=d
 ·subst hk;rw[if_pos rfl,h]
 ·rw [if_neg hk]
theorem YS(hti:QU P ti){all:List Oper}{K:S->Prop}:∀(r:List Oper) (σ:S),σ.ok=true->JS P ti N all r σ K->∃vs σ',K σ'/\σ'.ok=true/\σ'.mem=σ.mem/\σ'.nx=σ.nx/\QCg P all σ.mem σ.nx N r vs σ.sl σ'.sl
 |[],σ,hok,h=>⟨[],σ,h,hok,rfl,rfl,rfl⟩
 |o::r,σ,hok,h=>by
  simp only[JS]at h;split at h
  ·exact h.elim
  rename_i d hd;obtain⟨hlt,h⟩:=Qf h;simp only[yc]at hlt;have sound:∀ {sl:List (Nat×AV)} {K':AV->Prop},(S.mk sl σ.mem σ.nx).ok=true->evV P ti σ.mem (ρ sl) o K'->∃v,K' v/\ZH P σ.mem σ.nx (ρ sl) o v:=fun{sl} {K'} ho hv=>
   QFn (nx:=σ.nx) hti (λx v hx=>ρ_lt (σ:=S.mk sl σ.mem σ.nx) ho hx) (λn ob hl=>S.ok_mem hok hl) hv
  have okk:∀ {sl:List (Nat×AV)} {k:Nat} {v:AV},(S.mk sl σ.mem σ.nx).ok=true->v.lt σ.nx=true->(S.mk ((k,v)::sl) σ.mem σ.nx).ok=true:=fun{sl k v} ho hv=>
   S.ok_cons (σ:=S.mk sl σ.mem σ.nx) ho (zt _) hv (S.ok_memAll hok)
  have go:∀ {sl:List (Nat×AV)} {v:AV},(S.mk sl σ.mem σ.nx).ok=true->(∀k,look k sl=look k σ.sl)->v.lt σ.nx=true->Yl P all σ.mem σ.nx sl o v->JS P ti N all r ⟨(d,v)::sl,σ.mem,σ.nx⟩ K->
    ∃vs σ',K σ'/\σ'.ok=true/\σ'.mem=σ.mem/\σ'.nx=σ.nx/\QCg P all σ.mem σ.nx N (o::r) vs σ.sl σ'.sl:=fun{sl v} ho hl hv hy hr=>by
   obtain⟨vs,σ',k1,k2,k3,k4,k5⟩:=YS hti r ⟨(d,v)::sl,σ.mem,σ.nx⟩ (okk ho hv) hr;exact⟨v::vs,σ',k1,k2,k3,k4,sl,d,hl,hd,hlt,hv,hy,k5⟩
  split at h
  ·rename_i hg;obtain⟨v,hK,hdoes⟩:=sound hok h;exact go hok (λ_=>rfl) hdoes.1 (by unfold Yl;rw[hg];exact hdoes) hK
  ·rename_i j c hg;split at h
   case h_2=>exact h.elim
   rename_i e he;split at h
   case h_3=>exact h.elim
   case h_2=>rename_i hb;exact go hok (λ_=>rfl) rfl (by unfold Yl;rw[hg];exact⟨e,he,.inr ⟨hb,rfl⟩⟩) h
   rename_i b hb;have oke:(S.mk ((e,.d (.bl b))::σ.sl) σ.mem σ.nx).ok=true:=okk hok rfl;cases c with
   |true=>
    simp only[cond_true]at h;cases b with
    |true=>
     obtain⟨v,hK,hdoes⟩:=sound oke (h.t rfl);exact go oke (XB hb) hdoes.1 (by unfold Yl;rw[hg];exact⟨e,he,.inl ⟨true,by rw[XB hb];exact hb,λ_=>hdoes,λhc=>(hc rfl).elim⟩⟩) hK
    |false=>
     exact go oke (XB hb) rfl (by unfold Yl;rw[hg];exact⟨e,he,.inl ⟨false,by rw[XB hb];exact hb,(λhc=>by cases hc),λ_=>rfl⟩⟩) (h.f rfl)
   |false=>
    simp only[cond_false]at h;cases b with
    |false=>
     obtain⟨v,hK,hdoes⟩:=sound oke (h.f rfl);exact go oke (XB hb) hdoes.1 (by unfold Yl;rw[hg];exact⟨e,he,.inl ⟨false,by rw[XB hb];exact hb,λ_=>hdoes,λhc=>(hc rfl).elim⟩⟩) hK
    |true=>
     exact go oke (XB hb) rfl (by unfold Yl;rw[hg];exact⟨e,he,.inl ⟨true,by rw[XB hb];exact hb,(λhc=>by cases hc),λ_=>rfl⟩⟩) (h.t rfl)
theorem XW(o:Oper)(r:List Oper):Qq (o::r) 0=o.dst:=rfl
theorem Zg(o:Oper)(r:List Oper)(i:Nat):Qq (o::r) (i+1)=Qq r i:=by simp[Qq]
structure QK2(r:List Oper)(vs:List AV)(sl slj:List (Nat×AV))(j:Nat):Prop where
 new:∀i d,i<j->Qq r i=some d->look d slj=some (vs.getD i .junk)
 old:∀k,(∀i,i<j->Qq r i≠some k)->look k slj=look k sl
theorem QAW{all:List Oper}{mem:List (Nat×Ob)}{nx:Nat}:∀(r:List Oper) (vs:List AV) (sl sl':List (Nat×AV)),QCg P all mem nx N r vs sl sl'->(∀i j d,Qq r i=some d->Qq r j=some d->i=j)->
  vs.length=r.length/\QK2 r vs sl sl' r.length/\(∀j o,r[j]? =some o->∃slj d,QK2 r vs sl slj j/\o.dst=some d/\d<N/\(vs.getD j .junk).lt nx=true/\Yl P all mem nx slj o (vs.getD j .junk))
 |[],[],sl,sl',h,_=>by
  obtain rfl:sl=sl':=h;exact⟨rfl,⟨(λi d hi=>by cases hi),λk _=>rfl⟩,λj o ho=>by simp at ho⟩
 |o::r,v::vs,sl,sl',h,hu=>by
  obtain⟨sl1,d,h1,h2,h3,h4,h5,h6⟩:=h;have hu':∀i j d,Qq r i=some d->Qq r j=some d->i=j:=λi j d hi hj=>by
   have:=hu (i+1) (j+1) d (by rw[Zg];exact hi) (by rw[Zg];exact hj);omega
  obtain⟨k1,k2,k3⟩:=QAW r vs _ _ h6 hu';have lift:∀ {slj:List (Nat×AV)} {j:Nat},QK2 r vs ((d,v)::sl1) slj j->QK2 (o::r) (v::vs) sl slj (j+1):=fun{slj j} hk=>by
   refine⟨λi e hi he=>?_,λk hk'=>?_⟩
   ·cases i with
    |zero=>
     rw[XW]at he;have hde:d=e:=by rw[h2]at he;exact za he
     subst hde;rw[hk.old d λi' _ hi'=>by
      have:=hu 0 (i'+1) d (by rw[XW];exact h2) (by rw[Zg];exact hi');omega]
     rw[QC,if_pos rfl];simp
    |succ i=>
     have:=hk.new i e (by omega) (by rw[Zg]at he;exact he);simpa using this
   ·rw [hk.old k λi hi he=>hk' (i+1) (by omega) (by rw[Zg];exact he),QC,if_neg λhkd=>hk' 0 (by omega) (by subst hkd;rw[XW];exact h2)];exact h1 k
  refine⟨by simp[k1],lift k2,λj o' ho=>?_⟩;cases j with
  |zero=>
   simp only[ku,yo]at ho;subst ho;exact⟨sl1,d,⟨(λi d hi=>by cases hi),λk _=>h1 k⟩,h2,h3,by simpa using h4,by simpa using h5⟩
  |succ j=>
   obtain⟨slj,d',q1,q2,q3,q4,q5⟩:=k3 j o' (by simpa using ho);exact⟨slj,d',lift q1,q2,q3,by simpa using q4,by simpa using q5⟩
 |[],_::_,_,_,h,_=>h.elim
 |_::_,[],_,_,h,_=>h.elim
theorem Yq{acc:List Nat}{i:Nat}:∀ {l:List Edge} {m:Nat},QOS acc i l=some m->(∀e∈l,Region.binds .any e=true->e.on<i)/\
  ∀j,m.testBit j=true->∃e∈l,Region.binds .any e=true/\(e.on=j\/(acc.getD e.on 0).testBit j=true)
 |[],m,h=>by
  obtain rfl:=za h;exact⟨λe he=>(by cases he),λj hj=>by simp at hj⟩
 |e::t,m,h=>by
  simp only[QOS]at h;split at h
  ·rename_i m' hm';obtain⟨k1,k2⟩:=Yq hm';cases hb:Region.binds .any e with
   |false=>
    rw[hb]at h;obtain rfl:=za h;refine⟨λe' he' hbe=>?_,λj hj=>?_⟩
    ·rcases zi.1 he' with rfl|he'
     ·rw [hb]at hbe;cases hbe
     ·exact k1 e' he' hbe
    ·obtain ⟨e',h1,h2⟩:=k2 j hj;exact⟨e',zk _ h1,h2⟩
   |true=>
    rw[hb]at h;simp only[cond_true]at h;cases hlt:Nat.blt e.on i with
    |false=>rw[hlt]at h;cases h
    |true=>
     rw[hlt]at h;obtain rfl:=za h;refine⟨λe' he' hbe=>?_,λj hj=>?_⟩
     ·rcases zi.1 he' with rfl|he'
      ·simpa using hlt
      ·exact k1 e' he' hbe
     ·have hj':(m'|||1<<<e.on|||acc.getD e.on 0).testBit j=true:=hj;rw[Nat.testBit_or,Nat.testBit_or,wj,wj]at hj';rcases hj' with(hj'|hj')|hj'
      ·obtain ⟨e',h1,h2⟩:=k2 j hj';exact⟨e',zk _ h1,h2⟩
      ·refine ⟨e,zo,hb,.inl ?_⟩;rw[Nat.one_shiftLeft,Nat.testBit_two_pow]at hj';simpa using hj'
      ·exact ⟨e,zo,hb,.inr hj'⟩
  ·cases h
theorem Jl(ops:List Oper):∀(t:List Oper) (acc:List Nat) (i:Nat) (ms:List Nat),QFD acc i t=some ms->acc.length=i->(∀j,t[j]? =ops[i+j]?)->
  (∃r,ms=acc++r/\r.length=t.length)/\∀k o,i<=k->ops[k]? =some o->QOS (ms.take k) k o.after.toList=some (ms.getD k 0)
 |[],acc,i,ms,h,hl,ht=>by
  obtain rfl:=za h;refine⟨⟨[],by simp⟩,λk o hk ho=>?_⟩;have:=ht (k-i);rw[show i+(k-i)=k by omega,ho]at this;simp at this
 |o::t,acc,i,ms,h,hl,ht=>by
  simp only[QFD]at h;split at h
  ·rename_i m hm;obtain⟨⟨r,hr,hrl⟩,hs⟩:=Jl ops t (acc++[m]) (i+1) ms h (by simp[hl]) (λj=>by have:=ht (j+1);rw[show i+1+j=i+(j+1) by omega];simpa using this);refine⟨⟨m::r,by simp[hr],by simp[hrl]⟩,λk o' hk ho=>?_⟩;rcases yj i k with hik|hik
   ·exact hs k o' hik ho
   ·have hki:k=i:=by omega
    subst hki;have h0:=ht 0;rw[x6,ho]at h0;simp only[ku,yo]at h0;subst h0;rw[hr,x4];rw[ua (by omega),z8 (by omega),hm];simp[List.getD,um (show acc.length<=k by omega),hl]
  ·cases h
theorem Y2(hms:QFD [] 0 ops=some ms){L:Nat->Prop}(hL:∀i o,ops[i]? =some o->L i->∀e∈o.after,Region.binds .any e=true->L e.on):
  ∀(n i:Nat),i<n->∀o,ops[i]? =some o->(∀e∈o.after,Region.binds .any e=true->L e.on)->∀j,(ms.getD i 0).testBit j=true->L j:=by
 intro n;induction n with
 |zero=>intro i h;omega
 |succ n ih=>
  intro i hi o ho hLi j hj;obtain⟨⟨r,hr,hrl⟩,hs⟩:=Jl ops ops [] 0 ms hms rfl (λj=>by simp);obtain⟨k1,k2⟩:=Yq (hs i o (z7 _) ho);obtain⟨e,he,hb,h⟩:=k2 j hj;have he':e∈o.after:=by simpa using he
  have hLe:=hLi e he' hb;rcases h with rfl|h
  ·exact hLe
  ·have hlt:=k1 e he hb;have hlen:i<ops.length:=(z6.1 ho).1;obtain⟨o',ho'⟩:∃o',ops[e.on]? =some o':=⟨_,zj (by omega)⟩;refine ih e.on (by omega) o' ho' (hL e.on o' ho' hLe) j ?_;rw[zr,wb,if_pos hlt,<-zr]at h;exact h
theorem QAX{d:Nat}:∀ {l:List Oper} {i:Nat},QGv d l=true->Qq l i≠some d
 |[],i,_=>by simp[Qq]
 |o::t,i,h=>by
  simp only[QGv,zf]at h;cases i with
  |zero=>
   rw[XW];intro he;rw[he]at h;simp at h
  |succ i=>rw[Zg];exact QAX h.2
theorem YT{all:List Oper}{ms:List Nat}{j d:Nat}:∀ {l:List Oper} {i0 i:Nat} {o:Oper},QEg all ms j d i0 l=true->l[i]? =some o->d∈reads all o->
  (j<i0+i/\(ms.getD (i0+i) 0).testBit j=true)\/(i0+i<j/\(ms.getD j 0).testBit (i0+i)=true)
 |[],i0,i,o,_,ho,_=>by simp at ho
 |o'::t,i0,i,o,h,ho,hd=>by
  simp only[QEg,zf,wj]at h;cases i with
  |zero=>
   simp only[ku,yo]at ho;subst ho;rcases h.1 with h1|h1
   ·rw [wx]at h1;rw[ZF.2 hd]at h1;cases h1
   ·simp only[x6];cases hb:Nat.blt j i0 with
    |true=>rw[hb]at h1;exact .inl ⟨by simpa using hb,h1⟩
    |false=>
     rw[hb]at h1;simp only[cond_false]at h1;cases hb2:Nat.blt i0 j with
     |true=>rw[hb2]at h1;exact .inr ⟨by simpa using hb2,h1⟩
     |false=>rw[hb2]at h1;cases h1
  |succ i=>
   have:=YT h.2 (i:=i) (by simpa using ho) hd;rw[show i0+1+i=i0+(i+1) by omega]at this;exact this
theorem Y3{all pre:List Oper}{ms:List Nat}:∀ {l:List Oper} {j0:Nat},X8 all pre ms j0 l=true->(∀i j d,Qq l i=some d->Qq l j=some d->i=j)/\
  ∀j d,Qq l j=some d->QEg all ms (j0+j) d 0 pre=true
 |[],j0,_=>⟨λi j d h=>by simp[Qq]at h,λj d h=>by simp[Qq]at h⟩
 |o::t,j0,h=>by
  simp only[X8,zf]at h;obtain⟨h1,h2⟩:=h;split at h1
  ·rename_i d hd;simp only[zf]at h1;obtain⟨k1,k2⟩:=Y3 h2;refine⟨λi j e hi hj=>?_,λj e he=>?_⟩
   ·cases i with
    |zero=>
     cases j with
     |zero=>rfl
     |succ j=>
      rw[XW]at hi;rw[Zg]at hj;have:d=e:=za (hd.symm.trans hi);subst this;exact(QAX h1.1 hj).elim
    |succ i=>
     cases j with
     |zero=>
      rw[XW]at hj;rw[Zg]at hi;have:d=e:=za (hd.symm.trans hj);subst this;exact(QAX h1.1 hi).elim
     |succ j=>
      rw[Zg]at hi hj;rw[k1 i j e hi hj]
   ·cases j with
    |zero=>
     rw[XW]at he;have:d=e:=za (hd.symm.trans he);subst this;exact h1.2
    |succ j=>
     rw[Zg]at he;have:=k2 j e he;rw[show j0+1+j=j0+(j+1) by omega]at this;exact this
  ·cases h1
theorem QMC(h:Nat.land m (2 ^ i-1)=2 ^ i-1)(hj:j<i):m.testBit j=true:=by
 have:(m&&& (2 ^ i-1)).testBit j=(2 ^ i-1).testBit j:=by
  show(Nat.land m (2 ^ i-1)).testBit j=_;rw[h]
 rw[Nat.testBit_and,Nat.testBit_two_pow_sub_one]at this;simp[hj]at this;exact this
theorem YU{n:Nat}:∀ {k i:Nat},forced ms n i k=true->∀i',i<=i'->i'<i+k->∀j,j<i'->(ms.getD i' 0).testBit j=true
 |0,i,_,i',h1,h2=>by omega
 |k+1,i,h,i',h1,h2=>by
  simp only[forced,zf]at h;intro j hj;rcases yj i i' with hii|hii
  ·exact YU h.2 i' hii (by omega) j hj
  ·have:i'=i:=by omega
   subst this;exact QMC (zh h.1) hj
theorem QBX(hti:QU P ti){K:S->Prop}{r:List Oper}{a:Act}(ho:ops[i]? =some o)(h:Zp P ti N ops (o::r) σ K)(hst:St κ N g σ a w)
  (hn:∀g' σ' a' w',Zp P ti N ops r σ' K->St κ N g' σ' a' w'->next a' w'):wpOpIn (wd κ.rd) 0 P ops.toArray Q i next a w:=by
 have ho':ops.toArray[i]? =some o:=by simpa using ho
 have run:∀ {σ:S},QJl P ti N o σ (λσ'=>Zp P ti N ops r σ' K)->St κ N g σ a w->o.wpIn (wd κ.rd) 0 P a w next Q:=λh hst=>QEd hti h κ g a w hst _ Q hn
 have yl:∀ {j d:Nat} {b:Bool},Qq ops j=some d->look d σ.sl=some (.d (.bl b))->yielded ops.toArray a.tmps j=some b:=λhd hb=>QBU hst (by simpa using hd) hb;simp only[wpOpIn,ho'];simp only[Zp]at h;split at h
 ·rename_i hg;rw[if_pos (XA hg)];exact run h hst
 ·rename_i j hg;split at h
  case h_2=>exact h.elim
  rename_i d hd;split at h
  case h_3=>exact h.elim
  case h_2=>rename_i hb;rw[Xr hg (XR (hst.sl _ _ hb) hd),if_neg (by decide)];exact⟨λ_ _=>trivial,hn _ _ _ _ h hst.skip⟩
  rename_i b hb;rw[YQ hg (yl hd hb)];cases b with
  |true=>rw[if_pos (by decide)];exact run (h.t rfl) (hst.known hb rfl)
  |false=>rw[if_neg (by decide)];exact⟨λ_ _=>trivial,hn _ _ _ _ (h.f rfl) (hst.known hb rfl).skip⟩
 ·rename_i j hg;split at h
  case h_2=>exact h.elim
  rename_i d hd;split at h
  case h_3=>exact h.elim
  case h_2=>rename_i hb;rw[Xr hg (XR (hst.sl _ _ hb) hd),if_neg (by decide)];exact⟨λ_ _=>trivial,hn _ _ _ _ h hst.skip⟩
  rename_i b hb;rw[YQ hg (yl hd hb)];cases b with
  |true=>rw[if_neg (by decide)];exact⟨λ_ _=>trivial,hn _ _ _ _ (h.t rfl) (hst.known hb rfl).skip⟩
  |false=>rw[if_pos (by decide)];exact run (h.f rfl) (hst.known hb rfl)
theorem Q8{l:Array Bool}(hi:i<l.size):l.getD i true=l.getD i false:=by simp[Array.getD,hi]
theorem Qm{l:Array Bool}(d:Bool)(hi:i<l.size):(l.setIfInBounds i true).getD i d=true:=by simp[Array.getD,hi]
theorem QEh(hti:QU P ti){ops:List Oper}{ms:List Nat}{K:S->Prop}{Q:Exit->Act->World->Prop}{κ:Ctx}(hms:QFD [] 0 ops=some ms){m:Nat}(hf:∀i',m<=i'->i'<ops.length->∀j,j<i'->(ms.getD i' 0).testBit j=true)
  (hQ:∀g' σ' a' w',K σ'->St κ N g' σ' a' w'->Q .normal a' w'):∀(r:List Oper) (i:Nat) (listed:Array Bool) (σ:S) (g:Gh) (a:Act) (w:World),m<=i->i+r.length=ops.length->(∀j,r[j]? =ops[i+j]?)->listed.size=ops.length->
   (∀k,k<i->listed.getD k false=true)->(∀k,i<=k->k<ops.length->listed.getD k true=false)->Zp P ti N ops r σ K->St κ N g σ a w->wpAnyIn (wd κ.rd) 0 P .any ops.toArray Q r.length listed a w
 |[],i,listed,σ,g,a,w,hmi,hn,hr,hsz,h1,h2,h,hst=>by
  refine⟨?_,hQ g σ a w h hst⟩;rw[uy];intro j hj;obtain⟨k1,o,k2,k3⟩:=mem_ready.1 hj;have hj':j<ops.length:=by
   have:=(un.1 k2).1;simpa using this
  have:=h1 j (by simp at hn;omega);rw[Q8 (by omega)]at k1;rw[this]at k1;cases k1
 |o::r,i,listed,σ,g,a,w,hmi,hn,hr,hsz,h1,h2,h,hst=>by
  have hil:i<ops.length:=by simp at hn;omega
  have ho:ops[i]? =some o:=by have:=hr 0;simpa using this.symm
  obtain⟨⟨r',hr',hrl⟩,hs⟩:=Jl ops ops [] 0 ms hms rfl (λj=>by simp);have hclosed:∀k o',ops[k]? =some o'->(listed.getD k false=true)->∀e∈o'.after,Region.binds .any e=true->listed.getD e.on false=true:=λk o' ho' hk e he hb=>by
   have hk':k<i:=by
    rcases yj k i with h'|h'
    ·exact h'
    ·have hkl:=(z6.1 ho').1;have:=h2 k h' hkl;rw[Q8 (by omega),hk]at this;cases this
   have:=(Yq (hs k o' (z7 _) ho')).1 e (by simpa using he) hb;exact h1 _ (by omega)
  refine⟨λh0=>?_,λk hk=>?_⟩
  ·have:i∈Region.ready .any ops.toArray listed:=by
    rw[mem_ready];refine⟨h2 i (zt _) hil,o,by simpa using ho,λe he hb=>h1 _ ?_⟩;exact(Yq (hs i o (z7 _) ho)).1 e (by simpa using he) hb
   rw[h0]at this;cases this
  ·obtain ⟨k1,o',k2,k3⟩:=mem_ready.1 hk;have k2':ops[k]? =some o':=by simpa using k2
   have hkl:=(z6.1 k2').1;have hki:k=i:=by
    rcases Nat.lt_trichotomy k i with h'|h'|h'
    ·have:=h1 k h';rw[Q8 (by omega)]at k1;rw[this]at k1;cases k1
    ·exact h'
    ·have:=Y2 hms (L:=λk=>listed.getD k false=true) hclosed (k+1) k (y6 _) o' k2' k3 i (hf k (by omega) hkl i h');have h0:=h2 i (zt _) hil;rw[Q8 (by omega),this]at h0;cases h0
   subst hki;refine QBX hti ho h hst λg' σ' a' w' hK hst'=>?_;refine QEh hti hms hf hQ r (k+1) _ σ' g' a' w' (by omega) (by simp at hn⊢;omega) (λj=>by have:=hr (j+1);rw[show k+1+j=k+(j+1) by omega];simpa using this) (by simp[hsz]) (λj hj=>?_) (λj hj hj'=>?_) hK hst'
   ·by_cases hjk:k=j
    ·subst hjk;exact Qm _ (by omega)
    ·rw [getD_set_ne false hjk];exact h1 j (by omega)
   ·rw [getD_set_ne true (by omega)];exact h2 j (by omega) hj'
structure StP(κ:Ctx)(N:Nat)(pre:List Oper)(vs:List AV)(σ:S)(L:Nat->Prop)(g:Gh)(a:Act)(w:World):Prop where
 size:a.tmps.size=N
 defers:a.defers=κ.df.map mark
 inv:Inv κ g σ.mem w
 new:∀i d,L i->Qq pre i=some d->AVR g (vs.getD i .junk) (a.tmps.getD d undef)
 old:∀k v,look k σ.sl=some v->(∀i,L i->Qq pre i≠some k)->AVR g v (a.tmps.getD k undef)
theorem QJr{all:List Oper}{b:Bool}{a:Act}(h:AVR g (.d (.bl b)) (a.tmps.getD d undef))(hg:Qq all j=some d):yielded all.toArray a.tmps j=some b:=by
 have hv:a.tmps.getD d undef= .bool b:=by generalize a.tmps.getD d undef=q at h;cases h with|d _ _ h=>cases h;rfl
 have hlt:d<a.tmps.size:=by
  rcases yj d a.tmps.size with h'|h'
  ·exact h'
  ·simp [Array.getD,Nat.not_lt.2 h',undef]at hv
 have hd':a.tmps[d]? =some (.bool b):=by rw[QDe _ hlt,hv]
 unfold Qq at hg;unfold yielded;have:all.toArray[j]? =all[j]? :=by simp
 rw[this];cases hq:all[j]? with
 |none=>rw[hq]at hg;cases hg
 |some q=>
  rw[hq]at hg;simp only[jj];have hg':q.dst=some d:=hg;simp only[hg',jj,hd']
theorem ρ_at{a:Act}{x:Operand}(h:∀t,x= .tmp t->∀v,look t sl=some v->AVR g v (a.tmps.getD t undef))(hx:ρ sl x=some v):AVR g v (a.eval x):=by
 cases x with
 |tmp t=>exact h t rfl v hx
 |const c=>obtain rfl:=za hx;exact QEQ g c
 |global _=>cases hx
 |func f=>obtain rfl:=za hx;exact .fn _ _ _ _ _ rfl rfl (λj hj=>by cases hj) (λj hj=>by cases hj)
theorem QBY{all:List Oper}{nx:Nat}{a:Act}(ho:all[i]? =some o)(hy:Yl P all mem nx sl o v)(hi:Inv κ g mem w)
  (hr:∀t,t∈reads all o->∀v,look t sl=some v->AVR g v (a.tmps.getD t undef)) (hn:∀g' u w',Ext nx g g'->Inv κ g' mem w'->AVR g' v u->next (a.put o.dst u) w'):wpOpIn (wd κ.rd) 0 P all.toArray Q i next a w:=by
 have ho':all.toArray[i]? =some o:=by simpa using ho
 have hops:∀x∈o.op.operands.toList,∀v,ρ sl x=some v->AVR g v (a.eval x):=λx hx v hv=>ρ_at (λt ht v hl=>hr t (by
  subst ht;unfold reads;exact vu _ (List.mem_filterMap.2 ⟨_,hx,rfl⟩)) v hl) hv
 simp only[wpOpIn,ho'];unfold Yl at hy;split at hy
 ·rename_i hg;rw[if_pos (XA hg)];exact hy.2 κ g a w hi hops next Q hn
 ·rename_i j c hg;obtain⟨e,h1,hy⟩:=hy;have hre:=hr e (by unfold reads;rw[hg];exact vm _ (by simp[h1]));have skip:v= .tup []->next (a.put o.dst undef) w:=λhv=>by
   subst hv;exact hn g undef w (.refl _ _) hi (.tup [] #[] rfl λj hj=>by cases hj)
  rcases hy with⟨b,h2,h3,h4⟩|⟨h2,h3⟩
  ·have hb:=QJr (hre _ h2) h1;rw[YQ hg hb];by_cases hbc:b=c
   ·subst hbc;rw[if_pos (by simp)];exact(h3 rfl).2 κ g a w hi hops next Q hn
   ·rw [if_neg (by simpa using hbc)];exact⟨λ_ _=>trivial,skip (h4 hbc)⟩
  ·rw [Xr hg (XR (hre _ h2) h1),if_neg (by decide)];exact⟨λ_ _=>trivial,skip h3⟩
theorem Jy(p:Nat->Prop)(h:Prop)(a:(∃i,p i)->h)(b:(∀i,¬p i)->h):h:=by
 by_cases hp:∃i,p i
 ·exact a hp
 ·exact b λi hi=>hp ⟨i,hi⟩
theorem QJs(hi:i<m):Qq (ops.take m) i=Qq ops i:=by
 unfold Qq;rw[wb,if_pos hi]
theorem Y4(h:Qq ops i=some d):i<ops.length:=by
 unfold Qq at h;split at h
 ·rename_i o ho;exact(z6.1 ho).1
 ·cases h
theorem QK3(hti:QU P ti){K:S->Prop}{σ':S}{vs:List AV}(hms:QFD [] 0 ops=some ms)(hm:m<=ops.length)(hf:∀i',m<=i'->i'<ops.length->∀j,j<i'->(ms.getD i' 0).testBit j=true)
  (hw:X8 ops (ops.take m) ms 0 (ops.take m)=true) (hok:σ.ok=true) (hok':σ'.ok=true) (hmem:σ'.mem=σ.mem) (hnx:σ'.nx=σ.nx) (hch:QCg P ops σ.mem σ.nx N (ops.take m) vs σ.sl σ'.sl)
  (hQ:∀g' σ' a' w',K σ'->St κ N g' σ' a' w'->Q .normal a' w') (htail:Zp P ti N ops (ops.drop m) σ' K):∀(c:Nat) (U:List Nat) (listed:Array Bool) (g:Gh) (a:Act) (w:World),U.length=c->U.Nodup->(∀k,k∈U↔k<m/\listed.getD k true=false)->listed.size=ops.length->
   (∀k,m<=k->k<ops.length->listed.getD k true=false)->(∀k o,ops[k]? =some o->listed.getD k false=true->∀e∈o.after,Region.binds .any e=true->listed.getD e.on false=true)->
   StP κ N (ops.take m) vs σ (λi=>listed.getD i false=true) g a w->wpAnyIn (wd κ.rd) 0 P .any ops.toArray Q (c+(ops.length-m)) listed a w:=by
 obtain⟨huniq,htied⟩:=Y3 hw;obtain⟨hlen,hend,hat⟩:=QAW _ _ _ _ hch huniq;obtain⟨⟨r',hr',hrl⟩,hs⟩:=Jl ops ops [] 0 ms hms rfl (λj=>by simp);have hpl:(ops.take m).length=m:=by simp[ud hm]
 intro c;induction c with
 |zero=>
  intro U listed g a w hU hnd hmemU hsz h2 hcl hst;have hU0:U=[]:=yx.1 hU;subst hU0;have h1:∀k,k<m->listed.getD k false=true:=λk hk=>by
   cases hq:listed.getD k false with
   |true=>rfl
   |false=>exact absurd ((hmemU k).2 ⟨hk,by rw[Q8 (by omega)];exact hq⟩) (by simp)
  have hst':St κ N g σ' a w:=by
   refine⟨hst.size,hst.defers,λk v hk=>?_,by rw[hmem];exact hst.inv,hok'⟩;refine Jy (λi=>i<m/\Qq (ops.take m) i=some k) _ (fun⟨i,hi,hik⟩=>?_) λhno=>?_
   ·have:=hend.new i k (by omega) hik;rw[hk]at this;obtain rfl:=za this;exact hst.new i k (h1 i hi) hik
   ·rw [hend.old k λi hi he=>hno i ⟨by omega,he⟩]at hk;exact hst.old k v hk λi _ he=>hno i ⟨by have:=Y4 he;omega,he⟩
  have:=QEh hti hms hf hQ (ops.drop m) m listed σ' g a w (zt _) (by simp;omega) (λj=>by simp) hsz h1 h2 htail hst';simpa using this
 |succ c ih=>
  intro U listed g a w hU hnd hmemU hsz h2 hcl hst;rw[show c+1+(ops.length-m)=(c+(ops.length-m))+1 by omega];refine⟨λh0=>?_,λi hi=>?_⟩
  ·have none:∀n k,k<n->k∈U->False:=by
    intro n;induction n with
    |zero=>intro k h;omega
    |succ n ihn=>
     intro k hk hkU;obtain⟨hkm,hku⟩:=(hmemU k).1 hkU;have hko:ops[k]? =some ops[k]:=zj (by omega);have:k∈Region.ready .any ops.toArray listed:=by
      rw[mem_ready];refine⟨hku,ops[k],by simpa using hko,λe he hb=>?_⟩;have hlt:=(Yq (hs k _ (z7 _) hko)).1 e (by simpa using he) hb;cases hq:listed.getD e.on false with
      |true=>rfl
      |false=>exact(ihn e.on (by omega) ((hmemU _).2 ⟨by omega,by rw[Q8 (by omega)];exact hq⟩)).elim
     rw[h0]at this;cases this
   cases U with
   |nil=>cases hU
   |cons u t=>exact(none (u+1) u (y6 _) zo).elim
  ·obtain ⟨k1,o,k2,k3⟩:=mem_ready.1 hi;have ho:ops[i]? =some o:=by simpa using k2
   have hil:=(z6.1 ho).1;have hun:listed.getD i false=false:=by rw[<-Q8 (by omega)];exact k1
   have hanc:∀j,(ms.getD i 0).testBit j=true->listed.getD j false=true:=Y2 hms (L:=λk=>listed.getD k false=true) hcl (i+1) i (y6 _) o ho k3;have him:i<m:=by
    rcases yj i m with h'|h'
    ·exact h'
    ·exfalso;cases U with
     |nil=>cases hU
     |cons u t=>
      obtain⟨q1,q2⟩:=(hmemU u).1 zo;have:=hanc u (hf i h' hil u (by omega));rw[Q8 (by omega),this]at q2;cases q2
   have hop:(ops.take m)[i]? =some o:=by rw[wb,if_pos him];exact ho
   obtain⟨slj,d,hk,hd,hdN,hvl,hy⟩:=hat i o hop;have hslot:Qq (ops.take m) i=some d:=by unfold Qq;rw[hop];exact hd
   refine QBY ho hy hst.inv (λt ht v hv=>?_) λg' u w' he hi' hu=>?_
   ·refine Jy (λj=>j<i/\Qq (ops.take m) j=some t) _ (fun⟨j,hj,hjt⟩=>?_) λhno=>?_
    ·have:=hk.new j t hj hjt;rw[hv]at this;obtain rfl:=za this;have htd:=YT (htied j t hjt) hop ht;simp only[y5]at htd;rcases htd with⟨_,hb⟩|⟨hlt,_⟩
     ·exact hst.new j t (hanc j hb) hjt
     ·omega
    ·rw [hk.old t λj hj hjt=>hno j ⟨hj,hjt⟩]at hv;refine hst.old t v hv λj hj hjt=>?_;have htd:=YT (htied j t hjt) hop ht;simp only[y5]at htd;rcases htd with⟨hlt,_⟩|⟨hlt,hb⟩
     ·exact hno j ⟨hlt,hjt⟩
     ·have hjm:=Y4 hjt;rw[hpl]at hjm;have hjo:ops[j]? =some ops[j]:=zj (by omega);have:=Y2 hms (L:=λk=>listed.getD k false=true) hcl (j+1) j (y6 _) _ hjo (hcl j _ hjo hj) i hb;rw[hun]at this;cases this
   ·have hlist:∀j,(listed.setIfInBounds i true).getD j false=true->j=i\/listed.getD j false=true:=λj hj=>by
     by_cases hji:i=j
     ·exact .inl hji.symm
     ·rw [getD_set_ne false hji]at hj;exact .inr hj
    refine ih (U.erase i) _ g' _ w' (by rw[jz ((hmemU i).2 ⟨him,k1⟩)];omega) (hnd.erase i) (λk=>?_) (by simp[hsz]) (λk hk1 hk2=>?_) (λk o' ho' hk1 e he' hb=>?_) ?_
    ·rw [hnd.mem_erase_iff,hmemU];by_cases hki:k=i
     ·subst hki;rw[Qm _ (by omega)];simp
     ·rw [getD_set_ne true (vb hki)];simp[hki]
    ·rw [getD_set_ne true (by omega)];exact h2 k hk1 hk2
    ·rcases hlist k hk1 with rfl|hk1
     ·rw [ho]at ho';obtain rfl:=za ho';exact getD_set_true (k3 e he' hb)
     ·exact getD_set_true (hcl k o' ho' hk1 e he' hb)
    ·have hput:∀x,(a.put o.dst u).tmps.getD x undef=if x=d then u else a.tmps.getD x undef:=λx=>by
      rw[hd,Zm,YN _ _ _ _ (by rw[hst.size];exact hdN)]
     refine⟨by rw[hd];simp[Zm,hst.size],by rw[put_defers];exact hst.defers,hi',λj e hj hje=>?_,λk v hk' hno=>?_⟩
     ·rw [hput];by_cases hed:e=d
      ·subst hed;have:=huniq j i e hje hslot;subst this;rw[if_pos rfl];exact hu
      ·rw [if_neg hed];rcases hlist j hj with rfl|hj'
       ·rw [hslot]at hje;exact(hed (za hje).symm).elim
       ·have hjl:j<(ops.take m).length:=Y4 hje;obtain⟨_,_,_,_,_,q,_⟩:=hat j _ (zj hjl);exact(hst.new j e hj' hje).ext he q
     ·rw [hput,if_neg (by
       rintro rfl;exact hno i (Qm _ (by omega)) hslot)]
      exact(hst.old k v hk' λj hj=>hno j (getD_set_true hj)).ext he (S.ok_sl hok hk')
theorem Inv.drew(h:Inv κ g mem w)(n:Nat):Inv κ g mem {w with drawn:=n}:=
 ⟨h.frz,h.obs,h.inj,h.size,h.pres,h.own,h.f0,h.fnew,h.os,h.tape,h.output,h.dfr⟩
def QK4(ms:List Nat):Nat->Nat
 |0=>0
 |k+1=>bif Nat.beq (Nat.land (ms.getD k 0) (2 ^ k-1)) (2 ^ k-1)then QK4 ms k else k+1
def cut(ops:List Oper):Nat:=
 match QFD [] 0 ops with
 |some ms=>QK4 ms ops.length
 |none=>0
theorem QMD(hti:QU P ti){id:Nat}{K:S->Prop}(hm:P.follows .mixedOrders=true)(m:Nat)(hB:QCf ops m=true)(h:JS P ti N ops (ops.take m) σ λσ'=>Zp P ti N ops (ops.drop m) σ' K):QX P ti N id ops σ K:=by
 unfold QCf at hB;split at hB
 ·rename_i ms hms;simp only[zf]at hB;obtain⟨⟨hm',hw⟩,hf⟩:=hB;have hml:=yg hm';refine⟨λκ g a w _ hst=>wpIn_region_any hm ?_⟩;obtain⟨vs,σ',htail,hok',hmem,hnx,hch⟩:=YS hti _ σ hst.ok h;have key:∀Q:Exit->Act->World->Prop,(∀g' σ' a' w',K σ'->St κ N g' σ' a' w'->Q .normal a' w')->wpAnyIn (wd κ.rd) 0 P .any ops.toArray Q ops.length (Array.replicate ops.length false) a {w with drawn:=w.drawn+1}:=λQ hQ=>by
   have:=QK3 (Q:=Q) hti hms hml (λi' h1 h2=>YU hf i' h1 (by omega)) hw hst.ok hok' hmem hnx hch hQ htail m (List.range m) (Array.replicate ops.length false) g a {w with drawn:=w.drawn+1}
    xj qf (λk=>by
     rw[xd];refine⟨λhk=>⟨hk,by simp[Array.getD,show k<ops.length by omega]⟩,λhk=>hk.1⟩) (by simp) (λk _ hk=>by simp[Array.getD,hk]) (λk o _ hk=>by simp[Array.getD]at hk)
    ⟨hst.size,hst.defers,hst.inv.drew _,λi d hi=>by simp[Array.getD]at hi,λk v hk _=>hst.sl k v hk⟩
   rw[show m+(ops.length-m)=ops.length by omega]at this;exact this
  rw[We];exact key _ λg' σ' a' w' hK hst'=> .of hK hst'
 ·cases hB
theorem X9(hti:QU P ti)(hm:P.follows .mixedOrders=true){id:Nat}{K:S->Prop}(hB:QCf ops (cut ops)=true)(h:JS P ti N ops (ops.take (cut ops)) σ λσ'=>Zp P ti N ops (ops.drop (cut ops)) σ' K):QX P ti N id ops σ K:=QMD hti hm (cut ops) hB h
end
theorem QOT{α:Type}{e:α->List D}{l:List α}{x:α}{K:List D->Prop}(hx:l[k]? =some x)(h:K (e x)):
  (0<=(k:Int)/\(k:Int)<(l.map e).length)/\∀c,(l.map e)[(k:Int).toNat]? =some c->K c:=by
 have hk:k<l.length:=(z6.1 hx).1;refine⟨⟨by omega,by simp;exact hk⟩,λc hc=>?_⟩;simp only[kj,yv,hx,ug,yo]at hc;subst hc;exact h
theorem wrap_i64(n:Int)(h1: -9223372036854775808<=n)(h2:n<=9223372036854775807):IntKind.i64.wrap n=n:=j7 n ⟨h1,h2⟩
variable {a b n:Int}
theorem QK{k:IntKind}(h:a=b):AV.d (.it k a)=AV.d (.it k b):=by rw[h]
theorem ZW{a b:Bool}(h:a=b):AV.d (.bl a)=AV.d (.bl b):=by rw[h]
theorem QAY{a b:List UInt8}(h:a=b):AV.d (.st a)=AV.d (.st b):=by rw[h]
theorem again{α:Type}{I m:α->Prop}{A:α->S}(y:α)(hI:I y)(hμ:m y)(hsl:ZT σ.sl (A y).sl)(hmem:ZT σ.mem (A y).mem)(hok:(A y).ok=true):∃y,I y/\m y/\En σ (A y):=
 ⟨y,hI,hμ,hsl,hmem,hok⟩
theorem QW{α:Type}{l:List α}{x:α}(h:l[k]? =some x):l.take (k+1)=l.take k++[x]:=by
 rw[List.take_add_one,h];rfl
theorem Qo{α:Type}{l:List α}(h:k<l.length):∃x,l[k]? =some x:=⟨_,zj h⟩
variable {K:Int->Prop}
theorem Q0.eq{e:Int}(y:Int)(h:e=y)(hK:K y):Q0 e K:=⟨by rw[h];exact hK⟩
theorem Q0.i64{e:Int}(h: -9223372036854775808<=e/\e<=9223372036854775807)(hK:K e):Q0 (IntKind.i64.wrap e) K:=⟨by rw[j7 e h];exact hK⟩
theorem Q0.u64{e:Int}(h:0<=e/\e<=18446744073709551615)(hK:K e):Q0 (IntKind.u64.wrap e) K:=⟨by rw[IntWalk.u64_in e (by omega)];exact hK⟩
theorem Q0.u8{e:Int}(h:0<=e/\e<=255)(hK:K e):Q0 (IntKind.u8.wrap e) K:=⟨by rw[IntWalk.u8_in e (by omega)];exact hK⟩
theorem Q0.i64q(h:0<=a/\0<=b/\a<=9223372036854775807)(hK:K (a/b)):Q0 (IntKind.i64.wrap (a.tdiv b)) K:=by
 have h1:0<=a/b:=Int.ediv_nonneg h.1 h.2.1;have h2:a/b<=a:=Int.ediv_le_self _ h.1;refine⟨?_⟩;rw[jm h.1,j7 _ ⟨by omega,by omega⟩];exact hK
theorem Q0.rem(h:0<=a)(hK:K (a % b)):Q0 (a.tmod b) K:=by
 refine⟨?_⟩;rw[qw h];exact hK
variable {A B p:Prop}
theorem Spl.yes{b:Bool}(hb:b=true)(h:A):Spl b A B:=by subst hb;exact Spl.tt h
theorem Spl.no{b:Bool}(hb:b=false)(h:B):Spl b A B:=by subst hb;exact Spl.ff h
theorem Spl.pd{hd:Decidable p}(h1:p->A)(h2:¬p->B):Spl (@decide p hd) A B:=⟨λh=>h1 (of_decide_eq_true h),λh=>h2 (of_decide_eq_false h)⟩
theorem Spl.peq(h1:a=b->A)(h2:¬a=b->B):Spl (a==b) A B:=⟨λh=>h1 (eq_of_beq h),λh=>h2 (by simpa using h)⟩
theorem Spl.pne(h1:¬a=b->A)(h2:a=b->B):Spl (a !=b) A B:=⟨λh=>h1 (by simpa using h),λh=>h2 (by simpa using h)⟩
theorem Spl.seq{a b:List UInt8}(h1:a=b->A)(h2:¬a=b->B):Spl (a==b) A B:=⟨λh=>h1 (eq_of_beq h),λh=>h2 (by simpa using h)⟩
theorem Spl.sne{a b:List UInt8}(h1:¬a=b->A)(h2:a=b->B):Spl (!(a==b)) A B:=⟨λh=>h1 (by simpa using h),λh=>h2 (by simpa using h)⟩
theorem Spl.nt{b:Bool}(h:Spl b B A):Spl (!b) A B:=⟨λh'=>h.f (by simpa using h'),λh'=>h.t (by simpa using h')⟩
theorem dtt{hd:Decidable p}(h:p): @decide p hd=true:=decide_eq_true h
theorem dff{hd:Decidable p}(h:¬p): @decide p hd=false:=decide_eq_false h
theorem ett(h:a=b):(a==b)=true:=by simpa using h
theorem eff(h:¬a=b):(a==b)=false:=by simpa using h
theorem ntt(h:¬a=b):(a !=b)=true:=by simpa using h
theorem nff(h:a=b):(a !=b)=false:=by simpa using h
theorem Yj{a b:Bool}(ha:a=true)(hb:b=true):(a&&b)=true:=by rw[ha,hb];rfl
theorem QBZ{a b:Nat}(h:a<=b):Nat.ble a b=true:=W7 h
theorem ZY{b:Bool}{q:Prop}(h:b=true)(hp:p): @cond.match_1 (λ_=>Prop) b (λ_=>p) (λ_=>q):=by rw[h];exact hp
theorem XO.eq{e:Nat}{K:Nat->Prop}(y:Nat)(h:e=y)(hK:K y):XO e K:=⟨by rw[h];exact hK⟩
theorem Q0.u64q(h:0<=a/\0<=b/\a<=18446744073709551615)(hK:K (a/b)):Q0 (IntKind.u64.wrap (a.tdiv b)) K:=by
 have h1:0<=a/b:=Int.ediv_nonneg h.1 h.2.1;have h2:a/b<=a:=Int.ediv_le_self _ h.1;refine⟨?_⟩;rw[jm h.1,IntWalk.u64_in _ ⟨by omega,by omega⟩];exact hK
theorem Qt{n:Nat}{a b:List AV}(h1:n=m)(h2:a=b):Ob.cells n a=Ob.cells m b:=by rw[h1,h2]
theorem QGw{α β:Type}{e:α->β}{l:List α}{K:β->Prop}(h1:k<l.length)(h:∀x,l[k]? =some x->K (e x)):
  (0<=(k:Int)/\(k:Int)<(l.map e).length)/\∀c,(l.map e)[(k:Int).toNat]? =some c->K c:=by
 refine⟨⟨by omega,by simpa using h1⟩,λc hc=>?_⟩;simp only[kj,yv,u5]at hc;obtain⟨x,hx,rfl⟩:=hc;exact h x hx
theorem QK5{α β:Type}{e:α->β}{l:List α}{K:β->Prop}(h0:0<=n/\n<l.length)(h:∀x,l[n.toNat]? =some x->K (e x)):
  (0<=n/\n<(l.map e).length)/\∀c,(l.map e)[n.toNat]? =some c->K c:=by
 refine⟨⟨h0.1,by simpa using h0.2⟩,λc hc=>?_⟩;simp only[yv,u5]at hc;obtain⟨x,hx,rfl⟩:=hc;exact h x hx
theorem QJt{α:Type}{l:List α}{K:α->Prop}(h1:k<l.length)(h:∀x,l[k]? =some x->K x):
  (0<=(k:Int)/\(k:Int)<l.length)/\∀c,l[(k:Int).toNat]? =some c->K c:=⟨⟨by omega,by omega⟩,h⟩
theorem QT2{α:Type}{l:List α}{K:α->Prop}(h0:0<=n/\n<l.length)(h:∀x,l[n.toNat]? =some x->K x):
  (0<=n/\n<l.length)/\∀c,l[n.toNat]? =some c->K c:=⟨h0,h⟩
theorem Qk{α β:Type}{e:α->β}{l:List α}{x:α}{K:β->Prop}(hx:l[k]? =some x)(h:K (e x)):
  (0<=(k:Int)/\(k:Int)<(l.map e).length)/\∀c,(l.map e)[(k:Int).toNat]? =some c->K c:=
 QGw (z6.1 hx).1 λy hy=>by rw[hx]at hy;obtain rfl:=za hy;exact h
theorem QT3{α:Type}{l:List α}{x:α}{K:α->Prop}(hx:l[k]? =some x)(h:K x):
  (0<=(k:Int)/\(k:Int)<l.length)/\∀c,l[(k:Int).toNat]? =some c->K c:=
 QJt (z6.1 hx).1 λy hy=>by rw[hx]at hy;obtain rfl:=za hy;exact h
variable {l:List UInt8}
theorem QQR{K:UInt8->Prop}(h1:k<l.length)(h:∀x,l[k]? =some x->x.toNat<256->K x):
  (0<=(k:Int)/\(k:Int)<l.length)/\∀c,l[(k:Int).toNat]? =some c->K c:=QJt h1 λx hx=>h x hx (W8 x)
theorem QSJ{K:UInt8->Prop}(h0:0<=n/\n<l.length)(h:∀x,l[n.toNat]? =some x->x.toNat<256->K x):
  (0<=n/\n<l.length)/\∀c,l[n.toNat]? =some c->K c:=⟨h0,λx hx=>h x hx (W8 x)⟩
theorem QOU{β:Type}{e:UInt8->β}{K:β->Prop}(h1:k<l.length)(h:∀x,l[k]? =some x->x.toNat<256->K (e x)):
  (0<=(k:Int)/\(k:Int)<(l.map e).length)/\∀c,(l.map e)[(k:Int).toNat]? =some c->K c:=QGw h1 λx hx=>h x hx (W8 x)
theorem QFu{n:Nat}{a b:List (List D)}(h:a=b):AV.ts sz a n=AV.ts sz b n:=by rw[h]
theorem QQv{a b:List (List D)}(h:a=b):AV.d (.fs sz a)=AV.d (.fs sz b):=by rw[h]
theorem QCh{α:Type}{l:List α}{x:α}{K:α->Prop}(h0:0<=n/\n<l.length)(hx:l[n.toNat]? =some x)(h:K x):
  (0<=n/\n<l.length)/\∀c,l[n.toNat]? =some c->K c:=⟨h0,λc hc=>by rw[hx]at hc;obtain rfl:=za hc;exact h⟩
theorem QSK{a b:List UInt8}(h:a=b):(a==b)=true:=by simpa using h
theorem QJu{a b:List UInt8}(h:¬a=b):(a==b)=false:=by simpa using h
theorem QSL{a b:List UInt8}(h:¬a=b):(!(a==b))=true:=by simpa using h
theorem QSM{a b:List UInt8}(h:a=b):(!(a==b))=false:=by simpa using h
open Go.ChangeShapes Go.WideShapes Go.RowKit
def QC8(w:World):Nat->Nat->Option Value:=λb o=>w.cell? ⟨b,o,none⟩
def QFv(ti:Nat->Option Ty)(T:List Nat):Nat->Nat->List (Nat×Nat)->Bool
 |o,size,[]=>Nat.beq o size
 |o,size,(off,t)::r=>Nat.beq off o&&T.contains t&&(match ti t with|some ty=>QFv ti T (o+ty.size) size r|none=>false)
def QGx(ti:Nat->Option Ty)(T:List Nat):Bool:=
 T.all λt=>match ti t with
  |some ⟨.bool,_,_,_,_,_⟩|some ⟨.int _,_,_,_,_,_⟩|some ⟨.string,_,_,_,_,_⟩=>true
  |some ⟨.slice e,_,_,_,_,_⟩=>T.contains e&&(match ti e with|some ety=>Nat.blt 0 ety.size|none=>false)
  |some ⟨.struct fs,size,_,_,_,_⟩=>QFv ti T 0 size fs
  |some ⟨.arr n e,size,_,_,_,_⟩=>T.contains e&&(match ti e with|some ety=>Nat.beq size (n*ety.size)|none=>false)
  |_=>false
def QSN(S:Nat->List D->Prop):List (Nat×Nat)->List D->Prop
 |[],ds=>ds=[]
 |(_,t)::r,ds=>∃a b,ds=a++b/\S t a/\QSN S r b
def QQS(S:List D->Prop):Nat->List D->Prop
 |0,ds=>ds=[]
 |n+1,ds=>∃a b,ds=a++b/\S a/\QQS S n b
def Shp(ti:Nat->Option Ty):Nat->Nat->List D->Prop
 |0,_,_=>False
 |n+1,t,ds=>match ti t with
  |some ⟨.bool,_,_,_,_,_⟩=>∃b,ds=[.bl b]
  |some ⟨.int k,_,_,_,_,_⟩=>∃z,ds=[.it k z]/\k.min<=z/\z<=k.max
  |some ⟨.string,_,_,_,_,_⟩=>∃l,ds=[.st l]/\l.length<=maxLen
  |some ⟨.slice e,_,_,_,_,_⟩=>match ti e with
   |some ety=>∃es,ds=[.fs ety.size es]/\es.length<=maxLen/\∀x∈es,Shp ti n e x
   |none=>True
  |some ⟨.struct fs,_,_,_,_,_⟩=>QSN (Shp ti n) fs ds
  |some ⟨.arr m e,_,_,_,_,_⟩=>QQS (Shp ti n e) m ds
  |_=>True
section
variable {H:Type} {enc:TypeId×Value->H} {P:Program} {w:World} {base:Nat} {spare:Nat->Bool} {held:Bool} {ti:Nat->Option Ty} {T:List Nat}
theorem QME{a:Addr}{v:Value}(h:w.cell? a=some v):a=⟨a.block,a.off,none⟩:=by
 obtain⟨b,o,s⟩:=a;cases s with
 |none=>rfl
 |some s=>
  simp only[World.cell?]at h;split at h<;>simp at h
theorem Y5(hti:QU P ti){ty:Ty}(h:ti t=some ty):P.cellsOf t=ty.size:=by
 obtain⟨u,i,h'⟩:=QE (hti _ _ h);simp[Program.cellsOf,h'.info,h'.size]
theorem Yc(h:T.contains t=true):t∈T:=by simpa using h
theorem QK6{F:Nat->Nat->Option Value}(sz:Nat)(a:Option Addr)(cap:Nat){S:List D->Prop}:∃ds:List D,ds.length=[Value.slice a 0 cap].length/\(∀j (h:j<ds.length),DR F ds[j] ([Value.slice a 0 cap].getD j undef))/\∃es,ds=[.fs sz es]/\es.length<=maxLen/\∀x∈es,S x:=by
 refine⟨[.fs sz []],rfl,λj hj=>?_,[],rfl,z7 _,λx hx=>by cases hx⟩;obtain rfl:j=0:=by simp at hj;omega
 exact .fs0 _ _ _
theorem QGy(hti:QU P ti)(hT:QGx ti T=true):∀(n:Nat) (t:Nat),t∈T->∀(cs:List Value) (x:DataW H×List MemPlace),DataW.trod enc P w base spare held n t cs=some x->
  ∃ds:List D,ds.length=cs.length/\(∀j (h:j<ds.length),DR (QC8 w) ds[j] (cs.getD j undef))/\Shp ti n t ds
 |0,t,ht,cs,x,h=>by simp[DataW.trod]at h
 |n+1,t,ht,cs,x,h=>by
  have hc:=ze.1 hT t ht;simp only[Shp];split at hc
  ·rename_i ht';obtain⟨u,i,h'⟩:=QE (hti _ _ ht');obtain rfl:=QGg h' rfl;obtain⟨b,rfl,_⟩:=DataW.trod_bool h'.und h;refine⟨[.bl b],rfl,λj hj=>?_,?_⟩
   ·obtain rfl:j=0:=by simp at hj;omega
    exact .bl b
   ·exact ⟨b,rfl⟩
  ·rename_i k _ _ _ _ _ ht';obtain⟨u,i,h'⟩:=QE (hti _ _ ht');obtain rfl:=QAP h' rfl;obtain⟨z,rfl,_,hw⟩:=DataW.trod_int h'.und h;refine⟨[.it k z],rfl,λj hj=>?_,?_⟩
   ·obtain rfl:j=0:=by simp at hj;omega
    exact .it k z
   ·simp only[Lit.wf,zf,decide_eq_true_eq]at hw;exact⟨z,rfl,hw.1,hw.2⟩
  ·rename_i ht';obtain⟨u,i,h'⟩:=QE (hti _ _ ht');obtain rfl:=Z3 h' rfl;obtain⟨s,rfl,_,hs⟩:=DataW.trod_string h'.und h;refine⟨[.st s.data.toList],rfl,λj hj=>?_,?_⟩
   ·obtain rfl:j=0:=by simp at hj;omega
    obtain⟨⟨l⟩⟩:=s;exact .st l
   ·exact ⟨_,rfl,by rw[wq];exact hs⟩
  ·rename_i e _ _ _ _ _ ht';simp only[zf]at hc;obtain⟨u,i,h'⟩:=QE (hti _ _ ht');obtain rfl:=Q3 h' rfl;have he:=Yc hc.1;split at hc
   ·rename_i ety hety;have hpos:0<ety.size:=by simpa using hc.2
    have hce:=Y5 hti hety;try simp only[hety]
    rcases DataW.trod_slice h'.und h with⟨rfl,_⟩|⟨a,len,cap,elems,rest,m,hm,rfl,_,hb,hl,hmx,hlen,hel,_⟩
    ·exact QK6 _ _ _
    ·obtain rfl:m=n:=by omega
     by_cases h0:len=0
     ·subst h0;exact QK6 _ _ _
     have key:∀i,i<len->∃(es:List D) (ci:List Value),w.cells? base (a.add (i*ety.size)) ety.size=some ci/\es.length=ci.length/\(∀j (h:j<es.length),DR (QC8 w) es[j] (ci.getD j undef))/\Shp ti m e es:=by
      intro i hi;have h1:=hel i hi;rw[hce]at h1;obtain⟨y,hy⟩:∃y,elems[i]? =some y:=⟨_,zj (by omega)⟩;rw[hy]at h1;obtain⟨ci,hci,htr⟩:=wy.1 h1;obtain⟨es,k1,k2,k3⟩:=QGy hti hT m e he ci y htr;exact⟨es,ci,hci,k1,k2,k3⟩
     obtain⟨f,hf⟩:=Go.Deep.choose_lt (α:=List D×List Value) (p:=λi y=>w.cells? base (a.add (i*ety.size)) ety.size=some y.2/\y.1.length=y.2.length/\(∀j (h:j<y.1.length),DR (QC8 w) y.1[j] (y.2.getD j undef))/\Shp ti m e y.1) (n:=len) (λi hi=>by
      obtain⟨es,ci,q⟩:=key i hi;exact⟨(es,ci),q⟩)
     have hcell:∀i j,i<len->j<ety.size->w.cell? (a.add (i*ety.size+j))=some ((f i).2.getD j undef):=by
      intro i j hi hj;obtain⟨k1,_,_,_⟩:=hf i hi;obtain⟨_,q2,q3⟩:=World.cells?_some k1;have:=q3 j hj;rw[Go.Deep.add_add]at this;rw[this,List.getD,zj (by omega)];rfl
     have ha:a=⟨a.block,a.off,none⟩:=by
      have:=hcell 0 0 (by omega) hpos;simp only[kr,x6]at this;have e0:a.add 0=a:=by simp[Addr.add]
      rw[e0]at this;exact QME this
     refine⟨[.fs ety.size ((List.range len).map λi=>(f i).1)],rfl,λj hj=>?_,_,rfl,by simp;omega,λx hx=>?_⟩
     ·obtain rfl:j=0:=by simp at hj;omega
      show DR (QC8 w) (.fs ety.size ((List.range len).map λi=>(f i).1)) (.slice (some a) len cap);rw[ha];refine .fs _ _ _ _ _ _ (λi j=>(f i).2.getD j undef) (by simp) hl (λi hi=>?_) (λi j hi hj=>?_) (λi hi j hj=>?_)
      ·simp only[zb,xj]at hi;simp only[z1,x5];obtain⟨k1,k2,_,_⟩:=hf i hi;rw[k2];exact(World.cells?_some k1).2.1
      ·have:=hcell i j hi hj;rw[ha,ZB]at this;show w.cell? ⟨a.block,a.off+i*ety.size+j,none⟩=_;rw[wl];exact this
      ·simp only[zb,xj]at hi;simp only[z1,x5]at hj⊢;obtain⟨_,_,k3,_⟩:=hf i hi;exact k3 j hj
     ·simp only[yf,xd]at hx;obtain⟨i,hi,rfl⟩:=hx;exact(hf i hi).2.2.2
   ·simp at hc
  ·rename_i fs size _ _ _ _ ht';obtain⟨u,inf,h'⟩:=QE (hti _ _ ht');obtain⟨fields,rfl,hfl⟩:=Jg h' rfl;have hsz:=Y5 hti ht';obtain⟨xs,m,hm,_,hl,hxl,hf⟩:=DataW.trod_struct h'.und h;obtain rfl:m=n:=by omega
   rw[hsz]at hl;simp only at hl;have key:∀(r:List (Nat×Nat)) (i o:Nat),fs.drop i=r->o<=size->QFv ti T o size r=true->∃ds:List D,ds.length=size-o/\(∀j (h:j<ds.length),DR (QC8 w) ds[j] (cs.getD (o+j) undef))/\QSN (Shp ti m) r ds:=by
    intro r;induction r with
    |nil=>
     intro i o hr ho ht;have:o=size:=zh ht;subst this;exact⟨[],by simp,(λj hj=>by cases hj),rfl⟩
    |cons p r ih=>
     obtain⟨off,ft⟩:=p;intro i o hr ho ht;simp only[QFv,zf]at ht;obtain⟨⟨t1,t2⟩,t3⟩:=ht;obtain rfl:=zh t1;split at t3
     ·rename_i fty hft;have hfi:fs[i]? =some (off,ft):=by
       have:=congrArg (·[0]?) hr;simpa using this
      obtain⟨fd,g1,g2,g3⟩:=QES hfl hfi;have htr:=hf i fd g1;have hil:i<xs.length:=by rw[hxl];exact(un.1 g1).1
      rw[zj hil,g2,g3,Y5 hti hft]at htr;obtain⟨da,k1,k2,k3⟩:=QGy hti hT m ft (Yc t2) _ _ htr;have hle:off+fty.size<=size:=by
       clear ih;have:∀(r:List (Nat×Nat)) (o:Nat),QFv ti T o size r=true->o<=size:=by
        intro r;induction r with
        |nil=>intro o h;exact Nat.le_of_eq (zh h)
        |cons p r ih=>
         obtain⟨a,b⟩:=p;intro o h;simp only[QFv,zf]at h;obtain⟨_,h⟩:=h;split at h
         ·have:=ih _ h;omega
         ·cases h
       exact this r _ t3
      obtain⟨db,q1,q2,q3⟩:=ih (i+1) (off+fty.size) (by rw[<-List.tail_drop,hr];rfl) hle t3;have hda:da.length=fty.size:=by rw[k1];simp;omega
      refine⟨da++db,by simp[hda,q1];omega,λj hj=>?_,da,db,rfl,k3,q3⟩;by_cases hjl:j<da.length
      ·rw [zx hjl];have:=k2 j hjl;have e:((cs.drop off).take fty.size).getD j undef=cs.getD (off+j) undef:=by
        simp only[List.getD,wb,vt];rw[if_pos (by omega)]
       rw[e]at this;exact this
      ·rw [yb (by omega)];have:=q2 (j-da.length) (by simp at hj;omega);rw[show off+fty.size+(j-da.length)=off+j by omega]at this;exact this
     ·cases t3
   obtain⟨ds,r1,r2,r3⟩:=key fs 0 0 rfl (z7 _) hc;exact⟨ds,by omega,λj hj=>by simpa using r2 j hj,r3⟩
  ·rename_i m e size _ _ _ _ ht';simp only[zf]at hc;obtain⟨u,inf,h'⟩:=QE (hti _ _ ht');obtain rfl:=QAO h' rfl;have he:=Yc hc.1;split at hc
   ·rename_i ety hety;have hse:size=m*ety.size:=zh hc.2;have hsz:=Y5 hti ht';have hce:=Y5 hti hety;obtain⟨xs,m',hm',_,hl,hxl,hf⟩:=DataW.trod_array h'.und h;obtain rfl:m'=n:=by omega
    rw[hsz]at hl;simp only at hl;have key:∀(k i:Nat),i+k=m->∃ds:List D,ds.length=k*ety.size/\(∀j (h:j<ds.length),DR (QC8 w) ds[j] (cs.getD (i*ety.size+j) undef))/\QQS (Shp ti m' e) k ds:=by
     intro k;induction k with
     |zero=>intro i _;exact⟨[],by simp,(λj hj=>by cases hj),rfl⟩
     |succ k ih=>
      intro i hi;have htr:=hf i (by omega);rw[hce,zj (by omega)]at htr;obtain⟨da,k1,k2,k3⟩:=QGy hti hT m' e he _ _ htr;obtain⟨db,q1,q2,q3⟩:=ih (i+1) (by omega);have hle:i*ety.size+ety.size<=cs.length:=by
       have:(i+1)*ety.size<=m*ety.size:=zw _ (by omega);rw[z2]at this;omega
      have hda:da.length=ety.size:=by rw[k1];simp;omega
      refine⟨da++db,by simp[hda,q1,z2];omega,λj hj=>?_,da,db,rfl,k3,q3⟩;by_cases hjl:j<da.length
      ·rw [zx hjl];have:=k2 j hjl;have e:((cs.drop (i*ety.size)).take ety.size).getD j undef=cs.getD (i*ety.size+j) undef:=by
        simp only[List.getD,wb,vt];rw[if_pos (by omega)]
       rw[e]at this;exact this
      ·rw [yb (by omega)];have:=q2 (j-da.length) (by simp at hj;omega);rw[show(i+1)*ety.size+(j-da.length)=i*ety.size+j by rw[z2];omega]at this;exact this
    obtain⟨ds,r1,r2,r3⟩:=key m 0 (by omega);exact⟨ds,by omega,λj hj=>by simpa using r2 j hj,r3⟩
   ·simp at hc
  ·cases hc
end
end Go.Sy
namespace Go.Sy
variable {g:Gh}
variable {k n m N' f:Nat}
variable {mem:List (Nat×Ob)}
variable {κ κ':Ctx}
variable {σ:S}
variable {w:World}
variable {v:AV}
variable {l cap l':List AV}
variable {a:Act}
variable {rs:List ResultVar}
variable {d:Option Nat}
variable {K:S->Prop}
variable {vs:Array Value}
variable {x gop:Operand}
variable {xs:Array Operand}
variable {c asg body:Code}
variable {ps:Array Nat}
variable {Q:Exit->S->Prop}
section
variable {P:Program} {ti:Nat->Option Ty} {N:Nat}
def Ob.kill(k n:Nat):Ob->Ob
 | .frame sz l=>bif Nat.beq n k then .frame 0 []else .frame sz l
 | .loop k' ps asg body st pd=>bif Nat.beq k' k then .frame 0 []else .loop k' ps asg body st pd
 |o=>o
def kills(k:Nat):List (Nat×Ob)->List (Nat×Ob)
 |[]=>[]
 |(n,o)::t=>(n,o.kill k n)::kills k t
theorem QBa(k n:Nat):∀l:List (Nat×Ob),look n (kills k l)=(look n l).map (Ob.kill k n)
 |[]=>rfl
 |(m,o)::t=>by
  simp only[kills,QC,QBa k n t];by_cases h:n=m
  ·subst h;simp
  ·simp [h]
theorem QEi{k nx:Nat}:∀ {l:List (Nat×Ob)},(∀p∈l,p.1<nx/\p.2.lt nx=true)->∀p∈kills k l,p.1<nx/\p.2.lt nx=true
 |[],_,p,hp=>by cases hp
 |(m,o)::t,h,p,hp=>by
  simp only[kills,zi]at hp;rcases hp with rfl|hp
  ·obtain ⟨h1,h2⟩:=h (m,o) zo;refine⟨h1,?_⟩;cases o with
   |cells=>exact h2
   |tail=>rfl
   |vec=>rfl
   |tag=>exact h2
   |frame sz l=>simp only[Ob.kill];cases Nat.beq m k<;>first|rfl|exact h2
   |loop k' ps asg body st pd=>simp only[Ob.kill];cases Nat.beq k' k<;>first|rfl|exact h2
   |mp=>rfl
  ·exact QEi (λp hp=>h p (zk _ hp)) p hp
theorem On.kills(h:On g (kills k mem) n):On g mem n:=by
 unfold On at h⊢;rw[QBa]at h;cases hl:look n mem with
 |none=>rw[hl]at h;exact h
 |some ob=>
  rw[hl]at h;cases ob with
  |cells=>trivial
  |tail=>exact h
  |vec=>exact h
  |tag=>exact h
  |frame sz l=>simp only[Option.map,Ob.kill]at h;cases hb:Nat.beq n k<;>rw[hb]at h<;>exact h
  |loop=>trivial
  |mp=>exact h
def Ctx.inn(κ:Ctx)(r:Option Nat)(k:Nat)(t:Array Value):Ctx:= {κ with rd:=r,df:=[],sv:=λn=>if n=k then t else κ.sv n}
theorem Inv.enter{t:Array Value}(r:Option Nat)(hi:Inv κ g σ.mem w)(hok:σ.ok=true)(ht:t.size=N)(hs:∀s v,look s σ.sl=some v->AVR g v (t.getD s undef)):
  Inv (κ.inn r σ.nx t) g ((σ.nx,.frame (N+1) σ.sl)::σ.mem) w:=by
 have on:∀n,On g ((σ.nx,.frame (N+1) σ.sl)::σ.mem) n->On g σ.mem n:=λn h=>by
  unfold On at h⊢;rw[QC]at h;by_cases hn:n=σ.nx
  ·rw [if_pos hn]at h;exact h.elim
  ·rw [if_neg hn]at h;exact h
 refine⟨hi.frz,λn ob hn=>?_,λn m hnm h h'=>hi.inj n m hnm (on n h) (on m h'),hi.size,hi.pres,λn h=>hi.own n (on n h),hi.f0,hi.fnew,hi.os,hi.tape,hi.output,hi.dfr⟩;rw[QC]at hn;by_cases hnx:n=σ.nx
 ·subst hnx;rw[if_pos rfl]at hn;obtain rfl:=za hn;have e:(κ.inn r σ.nx t).sv σ.nx=t:=if_pos rfl;exact⟨λm hm=>by rw[e];omega,λs v h=>by rw[e];exact hs s v h⟩
 ·rw [if_neg hnx]at hn;have hob:=hi.obs n ob hn;have hlt:=(S.ok_mem hok hn).2;cases ob with
  |cells=>exact hob
  |tail=>exact hob
  |vec=>exact hob
  |tag=>exact hob
  |frame sz l=>
   have e:(κ.inn r σ.nx t).sv n=κ.sv n:=if_neg hnx;exact⟨by rw[e];exact hob.1,by rw[e];exact hob.2⟩
  |loop k' ps asg body st pd=>
   simp only[Ob.lt,yc]at hlt;have e:(κ.inn r σ.nx t).sv k'=κ.sv k':=if_neg (by omega);obtain⟨eb,fn,D,h⟩:=hob;exact⟨eb,fn,D,by rw[e];exact h⟩
  |mp=>exact hob
theorem Inv.leave(hi:Inv κ' g mem w)(h1:κ'.w0=κ.w0)(h2:κ'.F0=κ.F0)(h3:κ'.mod=κ.mod)(h4:∀D∈κ.dfb,D∈κ'.dfb)(h5:∀n,n≠k->κ'.sv n=κ.sv n)
  (h6:∀n k' ps asg body st pd,look n mem=some (.loop k' ps asg body st pd)->κ'.lb n=κ.lb n):Inv κ g (kills k mem) w:=by
 refine⟨hi.frz,λn ob hn=>?_,λn m hnm h h'=>hi.inj n m hnm h.kills h'.kills,h1▸hi.size,by rw[<-h1,<-h3];exact hi.pres,λn h=>by rw[<-h1,<-h3];exact hi.own n h.kills,by rw[<-h2];exact hi.f0,by rw[<-h1,<-h2,<-h3];exact hi.fnew,h1▸hi.os,h1▸hi.tape,h1▸hi.output,λD hD=>hi.dfr D (h4 D hD)⟩;rw[QBa]at hn;cases hl:look n mem with
 |none=>rw[hl]at hn;cases hn
 |some ob0=>
  rw[hl]at hn;obtain rfl:=za hn;have hob:=hi.obs n ob0 hl;have J0:∀m,Zv κ g w m (.frame 0 []):=λm=>⟨(λ_ h=>by cases h),(λ_ _ h=>by cases h)⟩;cases ob0 with
  |cells=>exact hob
  |tail=>exact hob
  |vec=>exact hob
  |tag=>exact hob
  |frame sz l=>
   simp only[Ob.kill];cases hb:Nat.beq n k with
   |true=>exact J0 n
   |false=>
    have hne:n≠k:=λe=>by subst e;rw[wc]at hb;cases hb
    exact⟨by rw[<-h5 n hne];exact hob.1,by rw[<-h5 n hne];exact hob.2⟩
  |loop k' ps asg body st pd=>
   simp only[Ob.kill];cases hb:Nat.beq k' k with
   |true=>exact J0 n
   |false=>
    have hne:k'≠k:=λe=>by subst e;rw[wc]at hb;cases hb
    obtain⟨eb,fn,D,h⟩:=hob;exact⟨by rw[<-h6 _ _ _ _ _ _ _ hl];exact eb,fn,D,by rw[<-h5 k' hne];exact h⟩
  |mp=>exact hob
def AV.noT:AV->Bool
 | .tup _=>false
 |_=>true
theorem QGz{ti:Nat->Option Ty}{σ:S}(hok:σ.ok=true):∀ {rs:List ResultVar} {l:List AV},Yb ti rs σ=some l->∀v∈l,v.lt σ.nx=true
 |[],l,hl,v,hv=>by obtain rfl:=za hl;cases hv
 | .tmp t::r,l,hl,v,hv=>by
  simp only[Yb]at hl;split at hl
  ·rename_i u l' hu hl';obtain rfl:=za hl;rcases zi.1 hv with rfl|hv
   ·exact S.ok_sl hok hu
   ·exact QGz hok hl' v hv
  ·cases hl
 | .cell t ty::r,l,hl,v,hv=>by
  simp only[Yb]at hl;split at hl
  ·rename_i n off tt l' hu ht hl';split at hl
   ·rename_i size c hm;cases hb:(Nat.ble (off+tt.size) size&&Nat.blt off size)with
    |false=>rw[hb]at hl;cases hl
    |true=>
     rw[hb]at hl;obtain rfl:=za hl;rcases zi.1 hv with rfl|hv
     ·have:=(S.ok_mem hok hm).2;simp only[Ob.lt,ze]at this;exact QJb this
     ·exact QGz hok hl' v hv
   ·cases hl
  ·cases hl
theorem QSO(h:v.noT=true)(hl:v.lt m=true):v.lt2 m=true:=by
 cases v<;>first|exact hl|cases h
theorem QQT(h:∀v∈l,v.lt m=true)(hn:l.all AV.noT=true):(Yi l).lt m=true:=by
 match l with
 |[]=>rfl
 |[v]=>exact h v zo
 |v::u::t=>
  simp only[Yi,AV.lt,ze]at hn⊢;exact λx hx=>QSO (hn x hx) (h x hx)
theorem QOV(hti:QU P ti){fn:Func}(h:St κ N g σ a w)(hl:Yb ti fn.results.toList σ=some l):∃u,(results fn a.tmps).run P w= .ok u w/\AVR g (Yi l) u:=by
 obtain⟨vs,h1,h2,h3⟩:=QB7 hti h hl;have hu:AVR g (Yi l) (if hs:vs.toArray.size=1 then vs.toArray[0]else .tuple vs.toArray):=by
  match l,vs,h1,h2 with
  |[x],[y],_,h2=>simpa [Yi]using h2 0 (by simp) (by simp)
  |[],[],_,_=>exact .tup _ _ rfl λj hj=>by cases hj
  |x::x'::l,y::y'::vs,h1,h2=>
   simp only[Yi];rw[dif_neg (by simp)];refine .tup _ _ (by simpa using h1) λj hj=>?_;have hj':j<(y::y'::vs).length:=by rw[h1];exact hj
   have:=h2 j hj hj';have e:(y::y'::vs).toArray.getD j undef=(y::y'::vs)[j]:=by
    rw[Array.getD,dif_pos (by simpa using hj')];simp[Array.getInternal]
   rw[e];exact this
 refine⟨_,?_,hu⟩;rw[QBW,jt];simp only[zp,Vn,h3,zg,zq]
structure FnI(P:Program)(f N:Nat)(rs:List ResultVar)(c:Code):Prop where
 ex:∃fn,P.funcs[f]? =some fn/\fn.body=some c/\fn.ntmps=N/\fn.results.toList=rs
 call:∀(vs:Array Value) (w:World),(callFunc f vs).run P w= .ok (.enter f vs) w
def QQU(ti:Nat->Option Ty)(rs:List ResultVar)(k:Nat)(d:Option Nat)(K:S->Prop):Exit->S->Prop
 | .ret,σ| .normal,σ=>match Yb ti rs σ with
  |some l=>bif l.all AV.noT then(match look k σ.mem with
   |some (.frame _ sl)=>K (S.put ⟨sl,kills k σ.mem,σ.nx⟩ d (Yi l))
   |_=>False)else False
  |none=>False
 |_,_=>False
theorem QFw{e:Exit}(h:QQU ti rs k d K e σ):e= .ret\/e= .normal:=by
 cases e with
 |ret=>exact .inl rfl
 |normal=>exact .inr rfl
 |_=>exact h.elim
theorem QQV{e:Exit}(h:QQU ti rs k d K e σ):∃l sz sl,Yb ti rs σ=some l/\l.all AV.noT=true/\look k σ.mem=some (.frame sz sl)/\K (S.put ⟨sl,kills k σ.mem,σ.nx⟩ d (Yi l)):=by
 have h':(match Yb ti rs σ with
  |some l=>bif l.all AV.noT then(match look k σ.mem with
   |some (.frame _ sl)=>K (S.put ⟨sl,kills k σ.mem,σ.nx⟩ d (Yi l))
   |_=>False)else False
  |none=>False):=by rcases QFw h with rfl|rfl<;>exact h
 split at h'
 ·rename_i l hl;obtain⟨h1,h'⟩:=Qf h';split at h'
  ·rename_i sz sl hs;exact⟨l,sz,sl,hl,h1,hs,h'⟩
  ·exact h'.elim
 ·exact h'.elim
theorem St.args{nx:Nat}(hi:Inv κ g mem w)(hdf:κ.df=[])(hlen:l.length<=N)(hsz:vs.size=l.length)(hav:∀j (h:j<l.length),AVR g l[j] (vs.getD j undef))
  (hok:(S.mk (idx 0 l) mem nx).ok=true):St κ N g ⟨idx 0 l,mem,nx⟩ {tmps:=vs++Array.replicate (N-vs.size) undef,defers:=[]} w:=by
 refine⟨by simp;omega,by rw[hdf];rfl,λk v hk=>?_,hi,hok⟩;obtain⟨h1,_,h3⟩:=QB8 l 0 k v hk;simp only[qk]at h1 h3;subst h3;have:=hav k h1;have e:(vs++Array.replicate (N-vs.size) undef).getD k undef=vs.getD k undef:=by
  have hk1:k<vs.size:=by omega
  rw[Array.getD,dif_pos (by simp;omega),Array.getD,dif_pos hk1];exact wg hk1
 simp only[e];exact this
theorem Yr(hst:St κ N g σ a w){f:Fn}{first:List AV}(hx:ρ σ.sl x=some (.fn f first cap))(hl:Xy (ρ σ.sl) xs.toList=some l'):
  ∃vs ws:Array Value,a.eval x= .func f vs ws/\(vs++xs.map a.eval++ws).size=(first++l'++cap).length/\∀j (h:j<(first++l'++cap).length),AVR g (first++l'++cap)[j] ((vs++xs.map a.eval++ws).getD j undef):=by
 have hxv:=ρ_ok hst.sl hx;generalize hev:a.eval x=q at hxv;cases hxv with|fn _ _ _ vs ws h1 h2 h3 h4=>?_
 obtain⟨a1,a2⟩:=QAT (g:=g) (a:=a) hl (λy _ v hv=>ρ_ok hst.sl hv);have a1':l'.length=xs.size:=by simpa using a1
 refine⟨vs,ws,rfl,by simp[h1,h2,a1'],λj hj=>?_⟩;simp only[zu]at hj;by_cases c1:j<first.length
 ·have e1:(first++l'++cap)[j]=first[j]:=by
   rw[zx (by simp;omega),zx c1]
  have e2:(vs++xs.map a.eval++ws).getD j undef=vs.getD j undef:=by
   simp only[wv];rw[vd (by simp;omega),vd (by omega)]
  rw[e1,e2];exact h3 j c1
 ·by_cases c2:j<first.length+l'.length
  ·have e1:(first++l'++cap)[j]=l'[j-first.length]'(by omega):=by
    rw[zx (by simp;omega),yb (by omega)]
   have e2:(vs++xs.map a.eval++ws).getD j undef=a.eval (xs.toList[j-first.length]'(by simp;omega)):=by
    simp only[wv];rw[vd (by simp;omega),u7 (by omega)];simp[h1,show j-first.length<xs.size by omega]
   rw[e1,e2];exact a2 _ (by omega) _
  ·have e1:(first++l'++cap)[j]=cap[j-first.length-l'.length]'(by omega):=by
    rw[yb (by simp;omega)];simp only[zu,W2]
   have e2:(vs++xs.map a.eval++ws).getD j undef=ws.getD (j-first.length-l'.length) undef:=by
    simp only[wv];rw[u7 (by simp;omega)];simp[h1,a1',W2]
   rw[e1,e2];exact h4 _ (by omega)
theorem QK7(hok:σ.ok=true){f:Fn}{first:List AV}(hx:ρ σ.sl x=some (.fn f first cap))(hl:Xy (ρ σ.sl) xs.toList=some l'):∀v∈first++l'++cap,v.lt σ.nx=true:=by
 have h1:=ρ_lt hok hx;simp only[AV.lt,AV.lt2,AV.lt1,ze,zf]at h1;have up:∀ {v:AV},v.lt0 σ.nx=true->v.lt σ.nx=true:=fun{v} h=>by
  cases v<;>first|exact h|cases h
 intro v hv;rcases yd.1 hv with hv|hv
 ·rcases yd.1 hv with hv|hv
  ·exact up (h1.1 v hv)
  ·obtain ⟨y,_,hy⟩:=QAn hl hv;exact ρ_lt hok hy
 ·exact up (h1.2 v hv)
theorem St.back{τ:S}{a':Act}{sz d:Nat}{sl:List (Nat×AV)}{od:Option Nat}{u:Value}(hst:St κ' N' g τ a' w)(hl:look k τ.mem=some (.frame sz sl))(ha:a.tmps.size=N)(hdf:a.defers=κ.df.map mark)(hsv:κ'.sv k=a.tmps)
  (hi:Inv κ g (kills k τ.mem) w) (hd:∀d,od=some d->d<N) (hv:AVR g v u) (hlt:v.lt τ.nx=true):St κ N g (S.put ⟨sl,kills k τ.mem,τ.nx⟩ od v) (a.put od u) w:=by
 have hfr:=hst.inv.obs k _ hl;have hlt':=(S.ok_mem hst.ok hl).2;simp only[Ob.lt,ze]at hlt';have hok:(S.mk sl (kills k τ.mem) τ.nx).ok=true:=S.ok_iff.2 ⟨hlt',QEi (S.ok_memAll hst.ok)⟩;have h0:St κ N g ⟨sl,kills k τ.mem,τ.nx⟩ a w:=⟨ha,hdf,λs v hs=>by rw[<-hsv];exact hfr.2 s v hs,hi,hok⟩;cases od with
 |none=>exact h0
 |some d=>exact h0.put (hd d rfl) (.refl _ _) hi hv (S.ok_cons hok (zt _) hlt (QEi (S.ok_memAll hst.ok)))
theorem CallI.inl{o:Oper}(hti:QU P ti)(hf:FnI P f N' rs c)(hlen:Nat.ble l.length N'=true)
  (h:vc P ti N' c (QQU ti rs σ.nx o.dst K) ⟨idx 0 l,(σ.nx,.frame (N+1) σ.sl)::σ.mem,σ.nx+1⟩):CallI P N o σ f l K:=by
 refine⟨fun⟨⟨x,xs,ats,first,cap,l',hop,hx,hl,hll⟩,hd⟩ κ g a w hst next Q hn=>?_⟩;subst hll;obtain⟨fn,k1,k2,k3,rfl⟩:=hf.ex;obtain⟨vs,ws,hev,hsz,hav⟩:=Yr hst hx hl;have hlen':=yg hlen;have hexec:(execOp a.eval o).run P w= .ok (.enter f (vs++xs.map a.eval++ws)) w:=by
  simp only[execOp,hop,resolve,hev,Deferred.ofValue,pure_bind,invoke];exact hf.call _ _
 refine YL hexec ?_;have hi':Inv (κ.inn none σ.nx a.tmps) g ((σ.nx,.frame (N+1) σ.sl)::σ.mem) w:=hst.inv.enter none hst.ok hst.size hst.sl;have hst':St (κ.inn none σ.nx a.tmps) N' g ⟨idx 0 (first++l'++cap),(σ.nx,.frame (N+1) σ.sl)::σ.mem,σ.nx+1⟩ {tmps:=(vs++xs.map a.eval++ws)++Array.replicate (fn.ntmps-(vs++xs.map a.eval++ws).size) undef,defers:=[]} w:=by
  rw[k3];refine St.args hi' rfl hlen' hsz hav (S.ok_iff.2 ⟨λp hp=>AV.lt_mono (QK7 hst.ok hx hl _ (QAu _ _ _ hp)) (y3 _),λp hp=>?_⟩);rcases zi.1 hp with rfl|hp
  ·refine ⟨y6 _,?_⟩;simp only[Ob.lt,ze];exact λp hp=>AV.lt_mono ((S.ok_iff.1 hst.ok).1 p hp) (y3 _)
  ·obtain ⟨q1,q2⟩:=S.ok_memAll hst.ok p hp;exact⟨wm q1,Ob.lt_mono q2 (y3 _)⟩
 refine YR hti k1 k2 k3 rfl rfl h hst' (λe σ hq=>QFw hq) λe g' τ a' w' hq hst2=>?_;obtain⟨l2,sz,sl,r1,r2,r3,hK⟩:=QQV hq;obtain⟨u,hres,hu⟩:=QOV hti hst2 r1;have hleave:Inv κ g' (kills σ.nx τ.mem) w':=hst2.inv.leave rfl rfl rfl (λD hD=>hD) (λn hn=>if_neg hn) (λ_ _ _ _ _ _ _ _=>rfl);refine⟨u,hres,u,rfl,hn g' _ _ _ hK ?_⟩;exact St.back (d:=0) hst2 r3 hst.size hst.defers (if_pos rfl) hleave hd hu (QQT (QGz hst2.ok r1) r2)
theorem Inv.blt(hi:Inv κ g mem w)(h:On g mem n):g.blk n<w.heap.size:=by
 have lt_of:∀ {x:Obj},w.heap[g.blk n]? =some x->g.blk n<w.heap.size:=λh=>by
  rcases yj (g.blk n) w.heap.size with h'|h'
  ·exact h'
  ·rw [xh h']at h;cases h
 unfold On at h;cases hl:look n mem with
 |none=>rw[hl]at h;exact h.elim
 |some ob=>
  have hob:=hi.obs n ob hl;rw[hl]at h;cases ob with
  |cells=>obtain⟨a',T',e1,_⟩:=hob;exact lt_of e1
  |tail=>obtain⟨a',T',e1,_⟩:=hob.1 h;exact lt_of e1
  |vec=>obtain⟨a',e1,_⟩:=hob.2.2 h;exact lt_of e1
  |tag=>exact h.elim
  |frame=>exact h.elim
  |loop=>obtain⟨_,fn,D,e⟩:=hob;exact lt_of e
  |mp=>obtain⟨a',e1,_⟩:=hob.2.2 h;exact lt_of e1
theorem Inv.reLoop{st:LoopState}{pd:Option Code}{o:Obj}{ob:Ob}(hi:Inv κ g mem w)(hm:look n mem=some (.loop k ps asg body st pd))(hob:Zv κ g (w.putObj (g.blk n) o) n ob):
  Inv κ g ((n,ob)::mem) (w.putObj (g.blk n) o):=by
 obtain⟨eb,fn,D0,hr⟩:=hi.obs n _ hm;have hon:On g mem n:=by unfold On;rw[hm];trivial
 have on:∀m,On g ((n,ob)::mem) m->On g mem m:=λm h=>by
  by_cases hmn:m=n
  ·subst hmn;exact hon
  ·unfold On at h⊢;rw[QC,if_neg hmn]at h;exact h
 refine⟨λb o' v h=>?_,λm ob' hm'=>?_,λm m' hmm h h'=>hi.inj m m' hmm (on m h) (on m' h'),by rw[Wd];exact hi.size,λb hb hmod=>?_,λm h=>hi.own m (on m h),hi.f0,hi.fnew,hi.os,hi.tape,hi.output,λx hx=>?_⟩
 ·have hc:=hi.frz b o' v h;have hne:b≠g.blk n:=by
   rintro rfl;simp only[World.cell?,hr]at hc;cases hc
  simp only[World.cell?]at hc⊢;rw[yh hne];exact hc
 ·rw [QC]at hm';by_cases hmn:m=n
  ·subst hmn;rw[if_pos rfl]at hm';obtain rfl:=za hm';exact hob
  ·rw [if_neg hmn]at hm';have hob':=hi.obs m ob' hm';cases ob' with
   |cells size c=>
    have hne:g.blk m≠g.blk n:=hi.inj m n hmn (by unfold On;rw[hm'];trivial) hon;obtain⟨arr,T,e1,er⟩:=hob';exact⟨arr,T,by rw[yh hne];exact e1,er⟩
   |tag k' t'=>
    obtain⟨arr,fz,e⟩:=hob';exact⟨arr,fz,by rw[yh (λhb=>by rw[hb,hr]at e;cases e)];exact e⟩
   |vec t' sz' es' f'=>exact ZM.mono hob' (λ_ _ _ h=>h) rfl rfl rfl rfl (λhh=>yh (hi.inj m n hmn (by unfold On;rw[hm'];exact hh) hon)) (λ_ _ h=>h)
   |tail=>
    refine⟨λhh=>?_,hob'.2⟩;have hne:g.blk m≠g.blk n:=hi.inj m n hmn (by unfold On;rw[hm'];exact hh) hon;obtain⟨arr,T,e1,er⟩:=hob'.1 hh;exact⟨arr,T,by rw[yh hne];exact e1,er⟩
   |frame sz l=>exact hob'
   |loop k ps asg body st pd=>
    have hne:g.blk m≠g.blk n:=hi.inj m n hmn (by unfold On;rw[hm'];trivial) hon;obtain⟨eb',fn',D',e⟩:=hob';exact⟨eb',fn',D',by rw[yh hne];exact e⟩
   |mp b ag tp l=>exact ZQ.mono hob' (λ_ _ _ h=>h) rfl rfl rfl rfl (λhh=>yh (hi.inj m n hmn (by unfold On;rw[hm'];exact hh) hon)) (λ_ _ h=>h)
 ·have hne:b≠g.blk n:=by
   rintro rfl;rcases hi.own n hon with h|h
   ·omega
   ·exact hmod h
  rw[yh hne];exact hi.pres b hb hmod
 ·have hD:=hi.dfr x hx;have hne:x≠g.blk n:=by
   rintro rfl;rw[hr]at hD;cases hD
  rw[yh hne];exact hD
theorem Inv.newLoop{D fn D0:Nat}(hi:Inv κ g mem w)(hmem:∀m ob,look m mem=some ob->m≠n)
  (hw:w.heap[g.blk n]? =some (.loop {state:= .ready,pending:=none,fn:=fn,tmps:=κ.sv k,params:=ps,assign:=asg,body:=body,defers:=D0})) (hD:w.heap[D]? =some (.deferred (some [])))
  (hfr:∀m,On g mem m->g.blk m≠g.blk n) (hown:κ.w0.heap.size<=g.blk n):
  Inv {κ with dfb:=D::κ.dfb,lb:=λm=>if m=n then g.blk n else κ.lb m} g ((n,.loop k ps asg body .ready none)::mem) w:=by
 have on:∀m,m≠n->On g ((n,.loop k ps asg body .ready none)::mem) m->On g mem m:=λm hmn h=>by
  unfold On at h⊢;rw[QC,if_neg hmn]at h;exact h
 refine⟨hi.frz,λm ob hm=>?_,λm m' hmm h h'=>?_,hi.size,hi.pres,λm h=>?_,hi.f0,hi.fnew,hi.os,hi.tape,hi.output,λx hx=>?_⟩
 ·rw [QC]at hm;by_cases hmn:m=n
  ·subst hmn;rw[if_pos rfl]at hm;obtain rfl:=za hm;exact⟨(if_pos rfl).symm,fn,D0,hw⟩
  ·rw [if_neg hmn]at hm;have hob:=hi.obs m ob hm;cases ob with
   |cells=>exact hob
   |vec=>exact hob
   |tail=>exact hob
   |tag=>exact hob
   |frame=>exact hob
   |loop=>exact⟨hob.1.trans (if_neg hmn).symm,hob.2⟩
   |mp=>exact hob
 ·by_cases hmn:m=n
  ·subst hmn;exact λe=>hfr m' (on m' (vb hmm) h') e.symm
  ·by_cases hmn':m'=n
   ·subst hmn';exact hfr m (on m hmm h)
   ·exact hi.inj m m' hmm (on m hmn h) (on m' hmn' h')
 ·by_cases hmn:m=n
  ·subst hmn;exact .inl hown
  ·exact hi.own m (on m hmn h)
 ·rcases zi.1 hx with rfl|hx
  ·exact hD
  ·exact hi.dfr x hx
def QSP(ti:Nat->Option Ty)(rs:List ResultVar)(k n:Nat)(Q:Exit->S->Prop):Exit->S->Prop
 | .ret,σ| .normal,σ=>match Yb ti rs σ with
  |some _=>match look n σ.mem with
   |some (.loop _ _ _ _ st pd)=>match look k σ.mem with
    |some (.frame _ sl)=>match st with
     | .busy=>False
     |_=>match pd with
      |none=>Q .normal ⟨sl,kills k ((n,.frame 0 [])::σ.mem),σ.nx⟩
      |some .ret=>Q .ret ⟨sl,kills k ((n,.frame 0 [])::σ.mem),σ.nx⟩
      |some (.exit id)=>Q (.exit id) ⟨sl,kills k ((n,.frame 0 [])::σ.mem),σ.nx⟩
      |_=>False
    |_=>False
   |_=>False
  |none=>False
 |_,_=>False
def QT4(Q:Exit->S->Prop):Option Code->S->Prop
 |none=>Q .normal
 |some .ret=>Q .ret
 |some (.exit id)=>Q (.exit id)
 |_=>λ_=>False
theorem QK8{e:Exit}(h:QSP ti rs k n Q e σ):(e= .ret\/e= .normal)/\∃l k' ps asg body st pd sz sl,Yb ti rs σ=some l/\look n σ.mem=some (.loop k' ps asg body st pd)/\look k σ.mem=some (.frame sz sl)/\st≠ .busy/\QT4 Q pd ⟨sl,kills k ((n,.frame 0 [])::σ.mem),σ.nx⟩:=by
 have he:e= .ret\/e= .normal:=by
  cases e with
  |ret=>exact .inl rfl
  |normal=>exact .inr rfl
  |_=>exact h.elim
 refine⟨he,?_⟩;have h':(match Yb ti rs σ with
  |some _=>match look n σ.mem with
   |some (.loop _ _ _ _ st pd)=>match look k σ.mem with
    |some (.frame _ sl)=>match st with
     | .busy=>False
     |_=>match pd with
      |none=>Q .normal ⟨sl,kills k ((n,.frame 0 [])::σ.mem),σ.nx⟩
      |some .ret=>Q .ret ⟨sl,kills k ((n,.frame 0 [])::σ.mem),σ.nx⟩
      |some (.exit id)=>Q (.exit id) ⟨sl,kills k ((n,.frame 0 [])::σ.mem),σ.nx⟩
      |_=>False
    |_=>False
   |_=>False
  |none=>False):=by rcases he with rfl|rfl<;>exact h
 split at h'
 ·rename_i l hl;split at h'
  ·rename_i k' ps asg body st pd hn;split at h'
   ·rename_i sz sl hk;split at h'
    ·exact h'.elim
    ·rename_i hst;refine⟨l,k',ps,asg,body,st,pd,sz,sl,hl,hn,hk,hst,?_⟩;split at h'
     ·exact h'
     ·exact h'
     ·exact h'
     ·exact h'.elim
   ·exact h'.elim
  ·exact h'.elim
 ·exact h'.elim
theorem Ya.introG{ps:Array Tmp}{first:List AV}{R:Exit->S->Prop}(hti:QU P ti)(hf:FnI P f N' rs c)(hg:ρ σ.sl gop=some (.fn (.func f) first cap))(hlen:Nat.ble (first.length+1+cap.length) N'=true)
  (hR:∀e υ,R e υ->∃τ,(∀(κ:Ctx) (g:Gh) (a:Act) (w:World),St κ N' g υ a w->∃g',St κ N' g' τ a w)/\QSP ti rs σ.nx (σ.nx+1) Q e τ)
  (h:vc P ti N' c R ⟨idx 0 (first++[.yld (σ.nx+1)]++cap),(σ.nx+1,.loop σ.nx ps asg body .ready none)::(σ.nx,.frame (N+1) σ.sl)::σ.mem,σ.nx+2⟩):Ya P ti N gop ps asg body Q σ:=by
 refine⟨λκ g a w hr hst=>?_⟩;have hrd:κ.rd=none:=by
  rcases hr with h|h
  ·exact h
  ·simp [Zs]at h
 obtain⟨fn,k1,k2,k3,rfl⟩:=hf.ex;have hlen':=yg hlen;have hxv:=ρ_ok hst.sl hg;have hxl:=ρ_lt hst.ok hg;generalize hev:a.eval gop=q at hxv;cases hxv with|fn _ _ _ vs ws h1 h2 h3 h4=>?_
 simp only[AV.lt,AV.lt2,AV.lt1,ze,zf]at hxl;rw[hrd];refine wpIn_rangeFunc λfid _=>?_;let D:=w.heap.size
 let w1:World:=(w.alloc (.deferred (some []))).alloc (.loop {state:= .ready,pending:=none,fn:=fid,tmps:=a.tmps,params:=ps,assign:=asg,body:=body,defers:=w.heap.size})
 have hw1:w1.heap=(w.heap.push (.deferred (some []))).push (.loop {state:= .ready,pending:=none,fn:=fid,tmps:=a.tmps,params:=ps,assign:=asg,body:=body,defers:=w.heap.size}):=rfl;let args:Array Value:=vs++ #[Value.func (.yield (w.heap.size+1)) #[] #[]]++ws
 refine⟨w.heap.size+1,[mark D],w1,{target:= .fn (.func f) ws,args:=vs++ #[Value.func (.yield (w.heap.size+1)) #[] #[]]},w1,f,args,w1,run_enterLoop_outer fid a.tmps ps asg body,?_,λ_ _=>trivial,hf.call _ _,(λhd=>by simp[wd]at hd),?_⟩
 ·have:a.eval (.const (.func (.yield (w.heap.size+1)) #[] #[]))= .func (.yield (w.heap.size+1)) #[] #[]:=rfl;simp[resolve,rangeCall,hev,Deferred.ofValue,this]
 let k:=σ.nx
 let n:=σ.nx+1
 let g1:Gh:= {g with blk:=λm=>if m=n then w.heap.size+1 else g.blk m}
 have he:Ext σ.nx g g1:=⟨λ_ _ _ h=>h,λm hm=>if_neg (by show m≠σ.nx+1;omega),λ_ _=>rfl,λ_ _=>rfl,λ_ _=>rfl⟩;have hb1:g1.blk n=w.heap.size+1:=if_pos rfl;have hold:∀b o v,g.F b o=some v->b<w.heap.size:=λb o v h=>u0 w ⟨b,o,none⟩ (hst.inv.frz b o v h);have hheap:∀b,b<w.heap.size->w1.heap[b]? =w.heap[b]? :=λb hb=>by
  rw[hw1,xw,if_neg (by simp;omega),xw,if_neg (by omega)]
 have i1:Inv κ g1 σ.mem w1:=hst.inv.grow (λn ob hl=>S.ok_mem hst.ok hl) he (by rw[hw1];simp;omega) hheap (λb o v h=> .inl h) (λb o v h=>by
  have hc:=hst.inv.frz _ _ _ h;simp only[World.cell?]at hc⊢;rw[hheap _ (hold _ _ _ h)];exact hc) rfl rfl rfl
 have i2:Inv (κ.inn none k a.tmps) g1 ((k,.frame (N+1) σ.sl)::σ.mem) w1:=i1.enter none hst.ok hst.size λs v hs=>(hst.sl s v hs).ext he (S.ok_sl hst.ok hs);have hlt2:∀m ob,look m ((k,Ob.frame (N+1) σ.sl)::σ.mem)=some ob->m≠n:=λm ob hm=>by
  rw[QC]at hm;by_cases hmk:m=k
  ·subst hmk;show σ.nx≠σ.nx+1;omega
  ·rw [if_neg hmk]at hm;have:=(S.ok_mem hst.ok hm).1;show m≠σ.nx+1;omega
 have i3:=i2.newLoop (n:=n) (k:=k) (D:=D) (fn:=fid) (D0:=w.heap.size) (ps:=ps) (asg:=asg) (body:=body) hlt2 (by
   rw[hb1,hw1,show(κ.inn none k a.tmps).sv k=a.tmps from if_pos rfl,xw,if_pos (by simp)])
  (by rw[hw1,xw,if_neg (by simp[D]),xw,if_pos rfl])
  (λm hm=>by
   have hm':On g1 σ.mem m:=by
    unfold On at hm⊢;rw[QC]at hm;by_cases hmk:m=k
    ·rw [if_pos hmk]at hm;exact hm.elim
    ·rw [if_neg hmk]at hm;exact hm
   have hmo:On g σ.mem m:=hm';have hmn:m<σ.nx:=by
    unfold On at hmo;cases hl:look m σ.mem with
    |none=>rw[hl]at hmo;exact hmo.elim
    |some ob=>exact(S.ok_mem hst.ok hl).1
   have:=hst.inv.blt hmo;rw[hb1,he.blk m hmn];omega)
  (by rw[hb1];show κ.w0.heap.size<=_;have:=hst.inv.size;omega)
 refine QER ?_;have hlt0:∀ {v:AV} {m:Nat},v.lt0 σ.nx=true->σ.nx<=m->v.lt m=true:=fun{v m} h hm=>by
  have:v.lt σ.nx=true:=by cases v<;>first|exact h|cases h
  exact AV.lt_mono this hm
 have hst':St {κ.inn none k a.tmps with dfb:=D::κ.dfb,lb:=λm=>if m=n then g1.blk n else κ.lb m} N' g1 ⟨idx 0 (first++[.yld n]++cap),(n,.loop k ps asg body .ready none)::(k,.frame (N+1) σ.sl)::σ.mem,σ.nx+2⟩ {tmps:=args++Array.replicate (fn.ntmps-args.size) undef,defers:=[]} w1:=by
  rw[k3];refine St.args i3 rfl (by simp only[zu,yq,xv];omega) (by simp only[args,x9,h1,h2,zu,yq,xv];rfl) (λj hj=>?_) (S.ok_iff.2 ⟨λp hp=>?_,λp hp=>?_⟩)
  ·have hj':j<first.length+1+cap.length:=by simpa only[zu,yq,xv,y5]using hj
   by_cases c1:j<first.length
   ·have e1:(first++[AV.yld n]++cap)[j]=first[j]:=by
     rw[zx (by simp;omega),zx c1]
    have e2:args.getD j undef=vs.getD j undef:=by
     simp only[args,wv];rw[vd (by simp;omega),vd (by omega)]
    rw[e1,e2];exact(h3 j c1).ext0 he (hxl.1 _ (zm c1))
   ·by_cases c2:j=first.length
    ·subst c2;have e1:(first++[AV.yld n]++cap)[first.length]= .yld n:=by
      rw[zx (by simp),yb (by omega)];simp
     have e2:args.getD first.length undef= .func (.yield (w.heap.size+1)) #[] #[]:=by
      simp only[args,wv];rw[vd (by simp;omega),u7 (by omega)];simp[h1]
     rw[e1,e2,<-hb1];exact .yld n
    ·have e1:(first++[AV.yld n]++cap)[j]=cap[j-first.length-1]'(by omega):=by
      rw[yb (by simp;omega)];simp only[zu,yq,xv,W2]
     have e2:args.getD j undef=ws.getD (j-first.length-1) undef:=by
      simp only[args,wv];rw[u7 (by simp;omega)];simp[h1,W2]
     rw[e1,e2];exact(h4 _ (by omega)).ext0 he (hxl.2 _ (zm (by omega)))
  ·have hp2:=QAu _ _ _ hp;rcases yd.1 hp2 with hp2|hp2
   ·rcases yd.1 hp2 with hp2|hp2
    ·exact hlt0 (hxl.1 _ hp2) (by show σ.nx<=σ.nx+2;omega)
    ·simp only[zi,xq,or_false]at hp2;rw[hp2];simp only[AV.lt,AV.lt2,AV.lt1,AV.lt0,yc];show σ.nx+1<σ.nx+2;omega
   ·exact hlt0 (hxl.2 _ hp2) (by show σ.nx<=σ.nx+2;omega)
  ·rcases zi.1 hp with rfl|hp
   ·refine ⟨by show σ.nx+1<σ.nx+2;omega,?_⟩;simp only[Ob.lt,yc];show σ.nx<σ.nx+2;omega
   rcases zi.1 hp with rfl|hp
   ·refine ⟨by show σ.nx<σ.nx+2;omega,?_⟩;simp only[Ob.lt,ze];exact λp hp=>AV.lt_mono ((S.ok_iff.1 hst.ok).1 p hp) (by omega)
   ·obtain ⟨q1,q2⟩:=S.ok_memAll hst.ok p hp;exact⟨by show p.1<σ.nx+2;omega,Ob.lt_mono q2 (by show σ.nx<=σ.nx+2;omega)⟩
 refine YR hti k1 k2 k3 rfl rfl h hst' (λe σ hq=>(by obtain⟨_,_,hq⟩:=hR e σ hq;exact(QK8 hq).1)) λe g0 τ0 a' w' hq0 hst0=>?_;obtain⟨τ,hw,hq⟩:=hR e τ0 hq0;obtain⟨g',hst2⟩:=hw _ _ _ _ hst0;obtain⟨_,l2,k',ps',asg',body',st,pd,sz,sl,r1,r2,r3,r4,hK⟩:=QK8 hq;obtain⟨u,hres,hu⟩:=QOV hti hst2 r1;refine⟨u,hres,?_⟩;obtain⟨eb,fn',D',hloop⟩:=hst2.inv.obs _ _ r2;have eb':g'.blk n=w.heap.size+1:=by
  rw[eb];show(if n=n then g1.blk n else κ.lb n)=_;rw[if_pos rfl,hb1]
 rw[eb']at hloop;refine⟨pd,_,run_endLoop hloop r4,?_⟩;have i4:=hst2.inv.reLoop (o:= .loop {state:= .exhausted,pending:=pd,fn:=fn',tmps:=(κ.inn none k a.tmps).sv k',params:=ps',assign:=asg',body:=body',defers:=D'}) (ob:= .frame 0 []) r2 ⟨(λ_ h=>by cases h),(λ_ _ h=>by cases h)⟩;rw[eb']at i4;have hne:k≠n:=by show σ.nx≠σ.nx+1;omega
 have hlk:look k ((n,Ob.frame 0 [])::τ.mem)=some (.frame sz sl):=by rw[QC,if_neg hne];exact r3
 have hok4:(S.mk τ.sl ((n,.frame 0 [])::τ.mem) τ.nx).ok=true:=by
  have:=S.ok_iff.1 hst2.ok;refine S.ok_iff.2 ⟨this.1,λp hp=>?_⟩;rcases zi.1 hp with rfl|hp
  ·exact ⟨(S.ok_mem hst2.ok r2).1,rfl⟩
  ·exact this.2 p hp
 have hst4:St {κ.inn none k a.tmps with dfb:=D::κ.dfb,lb:=λm=>if m=n then g1.blk n else κ.lb m} N' g' ⟨τ.sl,(n,.frame 0 [])::τ.mem,τ.nx⟩ a' _:=⟨hst2.size,hst2.defers,hst2.sl,i4,hok4⟩;have i5:Inv (κ.add [D]) g' (kills k ((n,.frame 0 [])::τ.mem)) _:=i4.leave rfl rfl rfl (λx hx=>hx) (λm hm=>if_neg hm) λm k' ps asg body st pd hm=>by
  by_cases hmn:m=n
  ·subst hmn;rw[QC,if_pos rfl]at hm;cases hm
  ·exact if_neg hmn
 have hst5:=St.back (κ:=κ.add [D]) (N:=N) (a:= {a with defers:=mark D::a.defers}) (od:=none) (d:=0) (v:= .d (.bl true)) (u:= .bool true) hst4 hlk hst.size (by
   show mark D::a.defers=_;rw[hst.defers];rfl) (if_pos rfl) i5 (λ_ h=>by cases h) (.d _ _ (.bl _)) rfl
 have hfr:κ.fr [D]:=⟨vo.2 ⟨(by simp),w9⟩,λx hx=>by
  simp only[zi,xq,or_false]at hx;subst hx;refine⟨λhx=>?_,hst.inv.size⟩;have:=hst.inv.dfr D hx;rw[xh (zt _)]at this;cases this⟩
 have fin:∀e,Q e ⟨sl,kills k ((n,.frame 0 [])::τ.mem),τ.nx⟩->QBV κ N Q e {a with defers:=mark D::a.defers} _:=λe hq=>⟨[D],g',_,hfr,hq,hst5⟩;cases pd with
 |none=>exact fin _ hK
 |some j=>
  cases j with
  |ret=>exact wpIn_ret (fin _ hK)
  |exit id=>exact wpIn_exit (fin _ hK)
  |_=>exact hK.elim
theorem Ya.intro{ps:Array Tmp}{first:List AV}(hti:QU P ti)(hf:FnI P f N' rs c)(hg:ρ σ.sl gop=some (.fn (.func f) first cap))(hlen:Nat.ble (first.length+1+cap.length) N'=true)
  (h:vc P ti N' c (QSP ti rs σ.nx (σ.nx+1) Q) ⟨idx 0 (first++[.yld (σ.nx+1)]++cap),(σ.nx+1,.loop σ.nx ps asg body .ready none)::(σ.nx,.frame (N+1) σ.sl)::σ.mem,σ.nx+2⟩):Ya P ti N gop ps asg body Q σ:=Ya.introG hti hf hg hlen (λ_ υ hq=>⟨υ,λ_ g _ _ h=>⟨g,h⟩,hq⟩) h
end
open Go.ChangeShapes Go.WideShapes Go.RowKit Go.ChangeAt
def g0(w:World):Gh:=⟨QC8 w,λ_=>0,λ_=>0,λ_=>0,λ_=>false⟩
theorem FnC.enter{P:Program}{args:List AV}(h:FnC P f args (.d (.bl true)))(hcall:(callFunc f vs).run P w= .ok (.enter f vs) w)(hG:GOK (QC8 w))(hsz:vs.size=args.length)
  (hav:∀(j:Nat) (hj:j<args.length),AVR (g0 w) args[j] (vs.getD j undef)):Calls P f vs w λe w'=>e= .returned (.bool true)/\Below w.heap.size w w':=by
 rcases h.run (g0 w) w vs (λb o v h=>h) hG hsz hav with⟨_,hC⟩|⟨v,w',hv,_⟩
 ·refine hC.mono λe w' ⟨v,g',he,hr,_,_,_,hs,hb,ho,ht,hout⟩=>?_;cases hr with|d _ _ hr=>?_
  cases hr;exact⟨he,ho,ht,hout,hs,hb⟩
 ·rw [hcall]at hv;simp at hv
section
variable {H:Type} {enc:TypeId×Value->H} {P:Program} {ti:Nat->Option Ty}
theorem QK9(hti:QU P ti){T:List Nat}(hT:QGx ti T=true){t:Nat}(ht:t∈T){r:Reach}{b:Nat}{v:Value}{d:DataW H}{ps:List MemPlace}{ty:Ty}(hty:ti t=some ty)(hk:ty.kd.agg=false)
  (hv:Value.okWide P w r b t v) (h:DataW.Trod enc P w 0 (λ_=>true) true t v d ps):∃n x,Shp ti n t [x]/\AVR (g0 w) (.d x) v:=by
 obtain⟨u,i,h'⟩:=QE (hti _ _ hty);obtain⟨n,hn⟩:=h;have hone:v.cells= #[v]:=by
  have hc:=ze.1 hT t ht;rw[hty]at hc;have hkd:=h'.kd;unfold Value.okWide at hv;rw[h'.und]at hv;cases u<;>simp only[XU]at hkd<;>rw[<-hkd]at hk<;>first|(simp[Kd.agg]at hk;done)|skip
  all_goals obtain⟨kd,a2,a3,a4,a5,a6⟩:=ty
  all_goals simp only at hkd
  all_goals subst hkd
  all_goals simp only at hc
  all_goals first|(cases hc;done)|skip
  all_goals cases v<;>first|rfl|(simp[Cell.okWide,h'.und,Cell.ok]at hv)
 obtain⟨ds,h1,h2,h3⟩:=QGy hti hT n t ht _ _ hn;rw[hone]at h1 h2;obtain⟨x,rfl⟩:∃x,ds=[x]:=List.length_eq_one_iff.1 (by simpa using h1);exact⟨n,x,h3,.d _ _ (h2 0 (by simp))⟩
theorem QBA(hl:laidOutB P=true){W W':World}(hb:Below W.heap.size W W'){sp:Nat->Bool}:∀ {ts:List TypeId} {vs:List Value} {ds:List (DataW H)} {ps:List MemPlace},DataW.TrodAll enc P W 0 (λ_=>true) true ts vs ds ps->
  (∀t∈ts,P.readableRec t=true/\t<P.types.size)->(∀p∈ps,p.block<W.heap.size)->(∀p∈ps,sp p.block=true)->DataW.TrodAll enc P W' 0 sp true ts vs ds ps
 |[],_,_,_,h,_,_,_=>by
  obtain⟨rfl,rfl,rfl⟩:=trodAll_nil h;exact trodAll_mk0
 |t::ts,_,_,_,h,hr,hlt,hsp=>by
  obtain⟨v,vs',d,ds',p,q,rfl,rfl,rfl,h1,h2⟩:=trodAll_cons h;obtain⟨r1,r2⟩:=hr t zo;refine⟨p,q,WideElems.Trod_stays hl r1 r2 h1 (λx hx=>hb.same (hlt x (vu _ hx))) (λx hx=>hsp x (vu _ hx)),?_,rfl⟩;exact QBA hl hb h2 (λt ht=>hr t (zk _ ht)) (λp hp=>hlt p (vm _ hp)) (λp hp=>hsp p (vm _ hp))
theorem QOW{f:Func}{s:ChangeSpec}{apart fresh handsOn again:Bool}{W W':World}{args:Array Value}{ds gs:List (DataW H)}{before:List MemPlace}{tb:TypeId}(hW:DataW.Whole enc P f.params.toList s.vars apart W args.toList ds gs before)
  (hv:s.vars=[]) (h1:(s.fn H (ds++gs)).results=[.lit (.bool true)]) (h2:(s.fn H (ds++gs)).args=ds) (h3:(s.fn H (ds++gs)).vars=[]) (hr:f.resultTypes= #[tb]) (hb:P.underlying tb=some .bool) (hl:laidOutB P=true)
  (hread:∀t∈f.params.toList,P.readableRec t=true/\t<P.types.size) (hB:Below W.heap.size W W'):s.post enc P f apart fresh handsOn again W args (.bool true) W':=by
 have hlt:∀p∈before,p.block<W.heap.size:=λp hp=>hW.lt p hp;have hold:∀p∈before,(λb=>decide (b<W.heap.size)) p.block=true:=λp hp=>by simpa using hlt p hp
 have hW':=hW;obtain⟨p,q,hA,hV,rfl,hz,hn⟩:=hW;rw[hv]at hV;obtain⟨rfl,rfl⟩:=trodVars_none hV;simp only[y4]at*
 have hargs:∀sp:Nat->Bool,(∀x∈p,sp x.block=true)->DataW.TrodAll enc P W' 0 sp true f.params.toList args.toList (s.fn H ds).args p:=λsp hsp=>by
  rw[h2];exact QBA hl hB hA hread hlt hsp
 have hvars:∀sp:Nat->Bool,(∀x∈p,sp x.block=true)->DataW.TrodVars enc P W' sp s.vars (s.fn H ds).vars []:=λsp _=>by rw[h3,hv];rfl
 have hres:∀(b:Nat) (sp:Nat->Bool) (hd:Bool),DataW.TrodAll enc P W' b sp hd f.resultTypes.toList ((Value.bool true).resultList f.resultTypes.size) (s.fn H ds).results []:=λb sp hd=>by
  rw[h1,hr];exact trodAll_mk1 (shut_bool hb true)
 have hok:∀(j:Nat) (t:TypeId) (r:Value),f.resultTypes[j]? =some t->((Value.bool true).resultList f.resultTypes.size)[j]? =some r->Value.okWide P W' .any 0 t r:=
  ok_one hr rfl (okWide_bool_mk hb true)
 refine⟨ds,[],p,[],p,[],by simpa using hW',by simpa using hres _ _ _,by simpa using hargs _ hold,by simpa using hvars _ hold,World.keptBut_mono (λx hx=>⟨hx,?_⟩) (hB.frame (· ∈p)),λ_=>?_⟩
 ·exact Or.inr (by simpa using hx)
 ·refine ⟨hok,_,_,([]++p)++[],⟨[]++p,[],trodAll_append (by simpa using hargs _ (λ_ _=>rfl)) (by simpa using hres _ _ _),by simpa using hvars _ (λ_ _=>rfl),rfl,?_,?_⟩,?_⟩
  ·intro b off hp;have hin:MemPlace.cell b off∈p:=by simpa using hp
   rw[hB.frozen (hlt _ hin)];exact hz b off hin
  ·intro ha;simpa using hn ha
  ·intro x hx _;simpa using hx
end
mutual
def QIY:DataW Unit->List Value
 | .lit (.bool b)=>[.bool b]
 | .lit (.int k n)=>[.int k n]
 | .lit (.string bytes)=>[.string ⟨bytes.toArray⟩]
 | .agg parts=>QC9 parts
 |_=>[]
def QC9:List (DataW Unit)->List Value
 |[]=>[]
 |d::r=>QIY d++QC9 r
end
def QOX(h:Array Obj)(l:List (Nat×DataW Unit)):Array Obj:=
 l.foldl (λh p=>h.modify p.1 fun| .cells _ t frozen=> .cells (QIY p.2).toArray t frozen|o=>o) h
end Go.Sy
namespace Go.Sy
variable {m n N' k f nx b i j t sz M:Nat}
variable {K:S->Prop}
variable {σ τ:S}
variable {a:Act}
variable {w:World}
variable {o oi:Oper}
variable {l:List AV}
variable {body:Code}
variable {fn:Func}
section
variable {P:Program} {ti:Nat->Option Ty} {N:Nat}
def QIZ:List Nat->List AV->List (Nat×AV)->List (Nat×AV)
 |p::ps,v::vs,sl=>QIZ ps vs ((p,v)::sl)
 |_,_,sl=>sl
theorem QIa{g:Gh}{N:Nat}:∀ {ps:List Nat} {l:List AV} {sl:List (Nat×AV)} {vs:List Value} {t:Array Value},ps.all (λp=>Nat.blt p N)=true->ps.length=l.length->vs.length=l.length->(∀j (h:j<l.length) (h':j<vs.length),AVR g l[j] vs[j])->t.size=N->
  (∀s v,look s sl=some v->AVR g v (t.getD s undef))->((ps.zip vs).foldl (λt (p,v)=>t.setIfInBounds p v) t).size=N/\∀s v,look s (QIZ ps l sl)=some v->AVR g v (((ps.zip vs).foldl (λt (p,v)=>t.setIfInBounds p v) t).getD s undef)
 |[],l,sl,vs,t,_,h1,h2,_,ht,hs=>by
  obtain rfl:=yx.1 h1.symm;exact⟨ht,hs⟩
 |p::ps,[],sl,vs,t,_,h1,_,_,_,_=>by cases h1
 |p::ps,v::l,sl,[],t,_,_,h2,_,_,_=>by cases h2
 |p::ps,v::l,sl,u::vs,t,hp,h1,h2,hv,ht,hs=>by
  simp only[y9,zf,yc]at hp;refine QIa (ps:=ps) (l:=l) (sl:=(p,v)::sl) (vs:=vs) (t:=t.setIfInBounds p u) hp.2 (by simpa using h1) (by simpa using h2) (λj h h'=>hv (j+1) (by simpa using h) (by simpa using h')) (by simp[ht]) λs x hx=>?_;rw[YN _ _ _ _ (by omega)];rw[QC]at hx;by_cases hsp:s=p
  ·rw [if_pos hsp]at hx⊢;obtain rfl:=za hx;exact hv 0 (by simp) (by simp)
  ·rw [if_neg hsp]at hx⊢;exact hs s x hx
theorem QIb:∀ {ps:List Nat} {l:List AV} {sl:List (Nat×AV)},(∀v∈l,v.lt m=true)->(∀p∈sl,p.2.lt m=true)->∀p∈QIZ ps l sl,p.2.lt m=true
 |[],l,sl,_,hs=>hs
 |p::ps,[],sl,_,hs=>hs
 |p::ps,v::l,sl,hl,hs=>QIb (ps:=ps) (λv hv=>hl v (zk _ hv)) λq hq=>by
  rcases zi.1 hq with rfl|hq
  ·exact hl v zo
  ·exact hs q hq
def QJv:Exit->Option (Option Code)
 | .normal=>some none
 | .ret=>some (some .ret)
 | .exit id=>some (some (.exit id))
 |_=>none
def QIc(j:Option Code):LoopState:=match j with
 |none=> .ready
 |some _=> .done
def isN(j:Option Code):Bool:=match j with
 |none=>true
 |some _=>false
def QSQ(k2 n:Nat)(d:Option Nat)(K:S->Prop)(e:Exit)(σ:S):Prop:=
 match QJv e with
 |some j=>match look n σ.mem with
  |some (.loop k ps asg body _ _)=>match look k2 σ.mem with
   |some (.frame _ sl)=>K (S.put ⟨sl,kills k2 ((n,.loop k ps asg body (QIc j) j)::σ.mem),σ.nx⟩ d (.d (.bl (isN j))))
   |_=>False
  |_=>False
 |none=>False
def QT5(P:Program)(ti:Nat->Option Ty)(N n:Nat)(body:Code)(Q:Exit->S->Prop):Exit->S->Prop
 | .normal,σ=>match look n σ.mem with
  |some (.loop k ps asg body' .ready pd)=>vc P ti N body Q ⟨σ.sl,(n,.loop k ps asg body' .busy pd)::σ.mem,σ.nx⟩
  |_=>False
 |_,_=>False
theorem QQW{k2:Nat}{d:Option Nat}{e:Exit}(h:QSQ k2 n d K e σ):∃j k ps asg body st pd sz sl,QJv e=some j/\look n σ.mem=some (.loop k ps asg body st pd)/\look k2 σ.mem=some (.frame sz sl)/\
  K (S.put ⟨sl,kills k2 ((n,.loop k ps asg body (QIc j) j)::σ.mem),σ.nx⟩ d (.d (.bl (isN j)))):=by
 unfold QSQ at h;split at h
 ·rename_i j hj;split at h
  ·rename_i k ps asg body st pd hn;split at h
   ·rename_i sz sl hk;exact⟨j,k,ps,asg,body,st,pd,sz,sl,hj,hn,hk,h⟩
   ·exact h.elim
  ·exact h.elim
 ·exact h.elim
theorem QG0{l:Nat}{R:Ending->World->Prop}{e:Exit}{j:Option Code}(hj:QJv e=some j)(h:∃v w',(Instr.endRound l j).run P w= .ok v w'/\R (.returned v) w'):roundPost P l R e a w:=by
 cases e with
 |normal=>obtain rfl:=za hj;exact h
 |ret=>obtain rfl:=za hj;exact h
 |exit id=>obtain rfl:=za hj;exact h
 |_=>cases hj
theorem QCd.intro{ps:Array Nat}{asg:Code}{pd:Option Code}{sl':List (Nat×AV)}(hti:QU P ti)(hm:look n σ.mem=some (.loop k ps asg body .ready pd))(hk:look k σ.mem=some (.frame (N'+1) sl'))
  (hps:(Nat.beq ps.toList.length l.length&&ps.toList.all (λp=>Nat.blt p N')&&(Zs asg&&Zs body))=true)
  (h:vc P ti N' asg (QT5 P ti N' n body (QSQ σ.nx n o.dst K)) ⟨QIZ ps.toList l sl',(σ.nx,.frame (N+1) σ.sl)::σ.mem,σ.nx+1⟩):QCd P N o σ n l K:=by
 refine⟨fun⟨⟨x,xs,ats,hop,hx,hl⟩,hd⟩ κ g a w hst next Q hn=>?_⟩;simp only[zf]at hps;obtain⟨⟨p1,p2⟩,p3,p4⟩:=hps;have p1':=zh p1;have hxv:=ρ_ok hst.sl hx;generalize hev:a.eval x=q at hxv;cases hxv with|yld=>?_
 obtain⟨a1,a2⟩:=QAT (g:=g) (a:=a) hl (λy _ v hv=>ρ_ok hst.sl hv);obtain⟨eb,fn,D,hloop⟩:=hst.inv.obs _ _ hm;have hfr:=hst.inv.obs _ _ hk;have hfrl:=(S.ok_mem hst.ok hk).2;simp only[Ob.lt,ze]at hfrl;have hargs:(xs.map a.eval).toList=xs.toList.map a.eval:=by simp
 have hexec:(execOp a.eval o).run P w= .ok (.round (g.blk n) fn ((ps.zip (xs.map a.eval)).foldl (λt (p,v)=>t.setIfInBounds p v) (κ.sv k)) asg body) w:=by
  have:=run_yield (P:=P) (args:=xs.map a.eval) hloop (by
   show(xs.map a.eval).size=ps.size;have:l.length=xs.size:=by simpa using a1
   simp only[Array.size_map];have:ps.toList.length=ps.size:=by simp
   omega)
  simp only[execOp,hop,resolve,hev,Deferred.ofValue,pure_bind,invoke];simpa using this
 refine⟨λ_ _=>trivial,?_⟩;rw[QBx hexec (λd hd=>by cases hd)];refine⟨λhdp=>by simp[wd]at hdp,roundIn_of_wpIn trivial ?_⟩;have efold:(ps.zip (xs.map a.eval)).foldl (λt (p,v)=>t.setIfInBounds p v) (κ.sv k)=(ps.toList.zip (xs.toList.map a.eval)).foldl (λt (p,v)=>t.setIfInBounds p v) (κ.sv k):=by
  rw[<-Array.foldl_toList,Array.toList_zip];simp
 rw[efold];obtain⟨s1,s2⟩:=QIa (g:=g) (N:=N') (ps:=ps.toList) (l:=l) (sl:=sl') (vs:=xs.toList.map a.eval) (t:=κ.sv k) p2 p1' (by simp[a1]) (λj h h'=>by
  have:=a2 j h (by simpa using h');simpa using this) (hfr.1 _ rfl) hfr.2
 have i1:Inv (κ.inn (some (g.blk n)) σ.nx a.tmps) g ((σ.nx,.frame (N+1) σ.sl)::σ.mem) w:=hst.inv.enter _ hst.ok hst.size hst.sl;have hst1:St (κ.inn (some (g.blk n)) σ.nx a.tmps) N' g ⟨QIZ ps.toList l sl',(σ.nx,.frame (N+1) σ.sl)::σ.mem,σ.nx+1⟩ {tmps:=(ps.toList.zip (xs.toList.map a.eval)).foldl (λt (p,v)=>t.setIfInBounds p v) (κ.sv k),defers:=[]} w:=by
  refine⟨s1,rfl,s2,i1,S.ok_iff.2 ⟨QIb (λv hv=>?_) (λp hp=>AV.lt_mono (hfrl p hp) (y3 _)),λp hp=>?_⟩⟩
  ·obtain ⟨y,_,hy⟩:=QAn hl hv;exact AV.lt_mono (ρ_lt hst.ok hy) (y3 _)
  ·rcases zi.1 hp with rfl|hp
   ·refine ⟨y6 _,?_⟩;simp only[Ob.lt,ze];exact λp hp=>AV.lt_mono ((S.ok_iff.1 hst.ok).1 p hp) (y3 _)
   ·obtain ⟨q1,q2⟩:=S.ok_memAll hst.ok p hp;exact⟨wm q1,Ob.lt_mono q2 (y3 _)⟩
 have hF:(wd κ.rd).inRound (g.blk n)=wd (some (g.blk n)):=rfl;rw[hF];refine wpIn_mono (Z0 hti asg _ _ h (κ.inn (some (g.blk n)) σ.nx a.tmps) g _ w (.inr p3) hst1) λe a1 w1 ⟨l1,g1,σ1,hl1,hq,hst2⟩=>?_;cases e with
 |normal=>
  simp only[QT5]at hq;split at hq
  ·rename_i k1 ps1 asg1 body1 pd1 hm1;obtain⟨eb1,fn1,D1,hloop1⟩:=hst2.inv.obs _ _ hm1;have ebg:g1.blk n=g.blk n:=eb1.trans eb.symm;rw[ebg]at hloop1;refine⟨_,run_beginRound hloop1 rfl,?_⟩;let o1:Obj:= .loop {state:= .busy,pending:=pd1,fn:=fn1,tmps:=(κ.inn (some (g.blk n)) σ.nx a.tmps).sv k1,params:=ps1,assign:=asg1,body:=body1,defers:=D1}
   have i2:=hst2.inv.reLoop (o:=o1) (ob:= .loop k1 ps1 asg1 body1 .busy pd1) hm1 ⟨eb1,fn1,D1,by
    have:=hst2.inv.blt (n:=n) (by unfold On;rw[hm1];trivial);rw[uk this];rfl⟩
   rw[ebg]at i2;have hst3:St ((κ.inn (some (g.blk n)) σ.nx a.tmps).add l1) N' g1 ⟨σ1.sl,(n,.loop k1 ps1 asg1 body1 .busy pd1)::σ1.mem,σ1.nx⟩ a1 (w1.putObj (g.blk n) o1):=by
    refine⟨hst2.size,hst2.defers,hst2.sl,i2,?_⟩;have hk1:=S.ok_mem hst2.ok hm1;have:=S.ok_iff.1 hst2.ok;refine S.ok_iff.2 ⟨this.1,λp hp=>?_⟩;rcases zi.1 hp with rfl|hp
    ·exact hk1
    ·exact this.2 p hp
   refine wpIn_mono (Z0 hti body _ _ hq ((κ.inn (some (g.blk n)) σ.nx a.tmps).add l1) g1 a1 _ (.inr p4) hst3) λe2 a2 w3 ⟨l2,g2,σ2,hl2,hq2,hst4⟩=>?_;obtain⟨j,k3,ps3,asg3,body3,st3,pd3,sz,sl3,hj,hm3,hk3,hK⟩:=QQW hq2;obtain⟨eb3,fn3,D3,hloop3⟩:=hst4.inv.obs _ _ hm3;have ebg3:g2.blk n=g.blk n:=eb3.trans eb.symm;have hblt:=hst4.inv.blt (n:=n) (by unfold On;rw[hm3];trivial);rw[ebg3]at hloop3;refine QG0 hj ⟨_,_,run_endRound j hloop3,?_⟩;have ej:j.isNone=isN j:=by cases j<;>rfl
   have est:(if j.isNone=true then LoopState.ready else LoopState.done)=QIc j:=by cases j<;>rfl
   rw[est,ej];let o2:Obj:= .loop {state:=QIc j,pending:=j,fn:=fn3,tmps:=(κ.inn (some (g.blk n)) σ.nx a.tmps).sv k3,params:=ps3,assign:=asg3,body:=body3,defers:=D3}
   have i5:=hst4.inv.reLoop (o:=o2) (ob:= .loop k3 ps3 asg3 body3 (QIc j) j) hm3 ⟨eb3,fn3,D3,by
    rw[uk hblt];rfl⟩
   rw[ebg3]at i5;have hne:σ.nx≠n:=by have:=(S.ok_mem hst.ok hm).1;omega
   have hok5:(S.mk σ2.sl ((n,.loop k3 ps3 asg3 body3 (QIc j) j)::σ2.mem) σ2.nx).ok=true:=by
    have hk1:=S.ok_mem hst4.ok hm3;have:=S.ok_iff.1 hst4.ok;refine S.ok_iff.2 ⟨this.1,λp hp=>?_⟩;rcases zi.1 hp with rfl|hp
    ·exact hk1
    ·exact this.2 p hp
   have hst5:St (((κ.inn (some (g.blk n)) σ.nx a.tmps).add l1).add l2) N' g2 ⟨σ2.sl,(n,.loop k3 ps3 asg3 body3 (QIc j) j)::σ2.mem,σ2.nx⟩ a2 (w3.putObj (g.blk n) o2):=⟨hst4.size,hst4.defers,hst4.sl,i5,hok5⟩;have i6:Inv κ g2 (kills σ.nx ((n,.loop k3 ps3 asg3 body3 (QIc j) j)::σ2.mem)) (w3.putObj (g.blk n) o2):=i5.leave rfl rfl rfl (λx hx=>vm _ (vm _ hx)) (λm hm=>if_neg hm) λ_ _ _ _ _ _ _ _=>rfl;exact hn g2 _ _ _ hK (St.back (d:=0) hst5 (by rw[QC,if_neg hne];exact hk3) hst.size hst.defers (if_pos rfl) i6 hd (.d _ _ (.bl _)) rfl)
  ·exact hq.elim
 |_=>exact hq.elim
def vcR(P:Program)(ti:Nat->Option Ty)(N:Nat)(body:Code)(Q:Exit->S->Prop):Nat->S->Prop
 |0,_=>False
 |n+1,σ=>vc P ti N body (λe σ'=>match e with| .normal=>vcR P ti N body Q n σ'|e=>Q e σ') σ
theorem Q7.unroll{Q:Exit->S->Prop}(hti:QU P ti)(n:Nat)(h:vcR P ti N body Q n σ):Q7 P N body Q σ:=by
 refine⟨λκ g a w hr hst=>wpIn_loop_rounds n ?_⟩;have key:∀n (σ:S) (κ:Ctx) g a w,(κ.rd=none\/Zs body=true)->vcR P ti N body Q n σ->St κ N g σ a w->Code.roundsIn (wd κ.rd) 0 P body (QBV κ N Q) n a w:=by
  intro n;induction n with
  |zero=>intro σ κ g a w _ h;exact h.elim
  |succ n ih=>
   intro σ κ g a w hr h hst;rw[roundsIn_succ];refine wpIn_mono (Z0 hti body _ σ h κ g a w hr hst) λe a' w' ⟨l,g',σ',hl,hq,hst'⟩=>?_;cases e with
   |normal=>exact XS (λe a w hp=>hp.app hl) n a' w' (ih σ' (κ.add l) g' a' w' hr hq hst')
   |_=>exact⟨l,g',σ',hl,hq,hst'⟩
 exact key n σ κ g a w hr h hst
def bd(f:Func):Code:=match f.body with|some c=>c|none=> .skip
theorem FnI.mk'{rs:List ResultVar}(hf:P.funcs[f]? =some fn)(hb:fn.body.isSome=true)(hN:fn.ntmps=N')(hrs:fn.results.toList=rs)(hcall:∀(vs:Array Value) (w:World),(callFunc f vs).run P w= .ok (.enter f vs) w):FnI P f N' rs (bd fn):=by
 refine⟨⟨fn,hf,?_,hN,hrs⟩,hcall⟩;unfold bd;cases hq:fn.body with
 |none=>rw[hq]at hb;cases hb
 |some c=>rfl
end
structure IsB(es:List (List D))(l:List UInt8):Prop where
 eq:es=QD l
variable {mem:List (Nat×Ob)}
variable {s:List (Nat×AV)}
section
variable {P:Program} {ti:Nat->Option Ty} {N:Nat}
def QAZ{α:Type}:List (Nat×α)->List Nat->List (Nat×α)
 |[],_=>[]
 |(k,v)::t,s=>bif Xf k s then QAZ t s else(k,v)::QAZ t (k::s)
theorem QB9{α:Type}:∀ {l m:List (Nat×α)},(∀p∈m,look p.1 l=some p.2)->ZT l m
 |_,[],_=>trivial
 |l,(k,v)::t,h=>⟨by unfold QOQ;rw[h (k,v) zo],QB9 λp hp=>h p (zk _ hp)⟩
theorem QAv{α:Type}:∀(l:List (Nat×α)) (s:List Nat) (p:Nat×α),p∈QAZ l s->p.1∉s/\look p.1 l=some p.2
 |[],_,_,h=>by cases h
 |(a,v)::t,s,p,h=>by
  unfold QAZ at h;cases hm:Xf a s with
  |true=>
   rw[hm]at h;simp only[cond_true]at h;obtain⟨h1,h2⟩:=QAv t s p h;refine⟨h1,?_⟩;rw[QC,if_neg,h2];rintro rfl;exact h1 (ZF.1 hm)
  |false=>
   rw[hm]at h;simp only[cond_false]at h;rcases zi.1 h with rfl|h
   ·refine ⟨λhs=>?_,by rw[QC,if_pos rfl]⟩;have:=ZF.2 hs;simp only at this;rw[hm]at this;cases this
   ·obtain ⟨h1,h2⟩:=QAv t (a::s) p h;simp only[zi,not_or]at h1;exact⟨h1.2,by rw[QC,if_neg h1.1,h2]⟩
theorem QCA{α:Type}(l:List (Nat×α))(s:List Nat):ZT l (QAZ l s):=QB9 λp hp=>(QAv l s p hp).2
def QOY{α:Type}(I:α->Prop)(f:α->List (Nat×AV))(h:α->List (Nat×Ob))(ks:List Nat)(mem:List (Nat×Ob))(nx:Nat)(μ:α->Nat)(Q:Exit->S->Prop)(x:α):Exit->S->Prop
 | .normal,σ=>∃y,I y/\μ y<μ x/\ZT σ.sl (f y)/\ZT σ.mem (h y++QAZ mem ks)/\(f y).all (λp=>p.2.lt nx)=true/\(h y).all (λp=>Nat.blt p.1 nx&&p.2.lt nx)=true
 |e,σ=>Q e σ
theorem S.ok_parts{sl:List (Nat×AV)}{h:List (Nat×Ob)}{ks:List Nat}(ho:(S.mk s mem nx).ok=true)(h1:sl.all (λp=>p.2.lt nx)=true)(h2:h.all (λp=>Nat.blt p.1 nx&&p.2.lt nx)=true):(S.mk sl (h++QAZ mem ks) nx).ok=true:=by
 simp only[S.ok,zf]at ho⊢;refine⟨h1,?_⟩;rw[vn,h2,wz,ze];intro p hp;exact ze.1 ho.2 p (Qb (QAv mem ks p hp).2)
theorem QCB{α:Type}{Q:Exit->S->Prop}(hti:QU P ti)(I:α->Prop)(f:α->List (Nat×AV))(h:α->List (Nat×Ob))(ks:List Nat)(μ:α->Nat)(x:α)(hx:I x)(h0:ZT s (f x))(hm:ZT mem (h x++QAZ mem ks))
  (h1:(f x).all (λp=>p.2.lt nx)=true) (h2:(h x).all (λp=>Nat.blt p.1 nx&&p.2.lt nx)=true)
  (step:∀x,I x->vc P ti N body (QOY I f h ks mem nx μ Q x) ⟨f x,h x++QAZ mem ks,nx⟩):Q7 P N body Q ⟨s,mem,nx⟩:=by
 refine⟨λκ g a w hr hst=>wpIn_loop_rounds (μ x+1) ?_⟩;have hok:=hst.ok;have key:∀n x (κ:Ctx) g a w,(κ.rd=none\/Zs body=true)->μ x<n->I x->St κ N g ⟨f x,h x++QAZ mem ks,nx⟩ a w->Code.roundsIn (wd κ.rd) 0 P body (QBV κ N Q) n a w:=by
  intro n;induction n with
  |zero=>intro x κ g a w _ h;omega
  |succ n ih=>
   intro x κ g a w hr hlt hI hst;rw[roundsIn_succ];refine wpIn_mono (Z0 hti body _ _ (step x hI) κ g a w hr hst) λe a' w' ⟨l,g',σ',hl,hq,hst'⟩=>?_;cases e with
   |normal=>
    obtain⟨y,hy,hmu,e1,e2,e3,e4⟩:=hq;have hen:En σ' ⟨f y,h y++QAZ mem ks,nx⟩:=⟨e1,e2,S.ok_parts hok e3 e4⟩;exact XS (λe a w hp=>hp.app hl) n a' w' (ih y (κ.add l) g' a' w' hr (by omega) hy (hen.st hst'))
   |_=>exact⟨l,g',σ',hl,hq,hst'⟩
 have hen:En ⟨s,mem,nx⟩ ⟨f x,h x++QAZ mem ks,nx⟩:=⟨h0,hm,S.ok_parts hok h1 h2⟩;exact key _ x κ g a w hr (by omega) hx (hen.st hst)
theorem QFx{α:Type}{Q:Exit->S->Prop}(hti:QU P ti)(I:α->Prop)(f:α->List (Nat×AV))(μ:α->Nat)(x:α)(hx:I x)(h0:ZT s (f x))
  (h1:(f x).all (λp=>p.2.lt nx)=true)
  (step:∀x,I x->vc P ti N body (QOY I f (λ_=>[]) [] mem nx μ Q x) ⟨f x,QAZ mem [],nx⟩):Q7 P N body Q ⟨s,mem,nx⟩:=
 QCB hti I f (λ_=>[]) [] μ x hx h0 (QCA mem []) h1 rfl step
theorem QLA{α:Type}{I m:α->Prop}{f:α->List (Nat×AV)}{r:List (Nat×Ob)}(y:α)(hI:I y)(hμ:m y)(h1:ZT σ.sl (f y))(h2:ZT σ.mem r)(h3:(f y).all (λp=>p.2.lt nx)=true):
  ∃y,I y/\m y/\ZT σ.sl (f y)/\ZT σ.mem r/\(f y).all (λp=>p.2.lt nx)=true/\([]:List (Nat×Ob)).all (λp=>Nat.blt p.1 nx&&p.2.lt nx)=true:=⟨y,hI,hμ,h1,h2,h3,rfl⟩
theorem QJw{α:Type}{I m:α->Prop}{f:α->List (Nat×AV)}{h:α->List (Nat×Ob)}{r:List (Nat×Ob)}(y:α)(hI:I y)(hμ:m y)(h1:ZT σ.sl (f y))(h2:ZT σ.mem (h y++r))(h3:(f y).all (λp=>p.2.lt nx)=true)(h4:(h y).all (λp=>Nat.blt p.1 nx&&p.2.lt nx)=true):
  ∃y,I y/\m y/\ZT σ.sl (f y)/\ZT σ.mem (h y++r)/\(f y).all (λp=>p.2.lt nx)=true/\(h y).all (λp=>Nat.blt p.1 nx&&p.2.lt nx)=true:=⟨y,hI,hμ,h1,h2,h3,h4⟩
end
variable {v u:AV}
theorem AtA.eq{K:AV->Prop}{a:AV}(e:a=v)(h:K v):AtA a K:=⟨by rw[e];exact h⟩
theorem AtA.mk'{K:AV->Prop}{a:AV}(h:K a):AtA a K:=⟨h⟩
theorem Yk{α:Type}{o:Option α}{x:α}{K:α->Prop}(h:o=some x)(hK:K x):∀c,o=some c->K c:=λc hc=>by rw[h]at hc;rw[<-za hc];exact hK
theorem ZZ{a:Nat}(h:a<b):Nat.blt a b=true:=W7 h
section
variable {P:Program} {ti:Nat->Option Ty} {N:Nat}
end
variable {x:Operand}
variable {Q:Exit->Act->World->Prop}
variable {ops:List Oper}
section
variable {P:Program} {ti:Nat->Option Ty} {N:Nat} {F:Fence} {n:Nat}
theorem QId(h:o.op= .move x)(ev:Operand->Value)(w:World):(execOp ev o).run P w= .ok (.value (ev x)) w:=by
 simp only[execOp,h,zq]
theorem QDA{ops:Array Oper}(hi:ops[i]? =some o)(ho:o.op= .move x)(hg:o.guard=none){K:Act->World->Prop}(h:K (a.put o.dst (a.eval x)) w):wpOpIn F n P ops Q i K a w:=by
 unfold Go.wpOpIn;simp only[hi];rw[if_pos (XA hg)];refine⟨λf hf=>?_,?_⟩
 ·unfold Oper.about at hf;rw[ho]at hf;cases hf
 ·rw [kh _ _ _ (λc=>by rw[ho];intro h;cases h),QId ho];exact h
theorem QOZ{d:Option Tmp}{u:Value}(h:∀e,d=some e->x≠ .tmp e):(a.put d u).eval x=a.eval x:=Act.eval_put h
theorem QIe{ops:Array Oper}{oj:Oper}(hj:ops[j]? =some oj)(ho:oi.op= .move x)(hap:oi.apart ops oj=true)
  (hsj:∀cs b,oj.op≠ .select cs b) (hdj:∀c,oj.op≠ .defer c) (hQ:∀c a w,¬Q (.panic c) a w) {K:Act->World->Prop}
  (h:wpOpIn F n P ops Q j K (a.put oi.dst (a.eval x)) w):
  wpOpIn F n P ops Q j (λa' w'=>K (a'.put oi.dst (a'.eval x)) w') a w:=by
 obtain⟨h1,h2,h3⟩:=Oper.apart_spec hap;have hx:∀(a:Act) u,(a.put oj.dst u).eval x=a.eval x:=λa u=>QOZ λe he hxe=>h3 e he (by
  subst hxe;unfold Oper.looksAt;exact vu _ (List.mem_filterMap.2 ⟨.tmp e,by rw[ho];simp[Op.operands],rfl⟩))
 have cm:∀(a:Act) u,(a.put oj.dst u).put oi.dst ((a.put oj.dst u).eval x)=(a.put oi.dst (a.eval x)).put oj.dst u:=λa u=>by rw[hx,<-Act.put_comm a _ u h2]
 unfold wpOpIn at*
 simp only[hj]at*
 rw[wanted_put oj a oi.dst _ h1,about_put oj w a oi.dst _ h1]at h;split
 ·rename_i hw;simp only[hw,if_true]at h;unfold Oper.wpIn at*
  rw[about_put oj w a oi.dst _ h1]at h;refine⟨h.1,?_⟩;have h:=h.2;rw[kh _ _ _ hdj,execOp_put oj hsj a oi.dst _ h1]at h;rw[kh _ _ _ hdj];generalize (execOp a.eval oj).run P w=r at*
  cases r with
  |ok y w'=>
   cases y<;>simp only[Oper.uponIn]at h⊢
   case value u=>rw[cm];exact h
   case skip=>rw[cm];exact h
   case defer d=>
    have e:({a with defers:=d::a.defers}:Act).eval x=a.eval x:=rfl;rw[cm,e,<-Act.put_defers];exact h
   case enter f args=>
    refine⟨h.1,CallsIn.mono h.2 λe w'' he=>?_⟩;cases e with
    |returned u=>show K _ _;rw[cm];exact he
    |panicked c=>exact(hQ _ _ _ he).elim
    |outgrown=>exact he
   case row row args=>exact⟨h.1,RowsIn.mono h.2 λu w'' he=>(by rw[cm];exact he)⟩
   case round l f tmps assign body=>
    refine⟨h.1,RoundIn.mono h.2 λe w'' he=>?_⟩;cases e with
    |returned u=>show K _ _;rw[cm];exact he
    |panicked c=>exact(hQ _ _ _ he).elim
    |outgrown=>exact he
  |halt y w'=>
   cases y<;>simp only[Oper.uponIn]at h⊢
   case panic u=>exact(hQ _ _ _ h).elim
 ·rename_i hw;simp only[hw]at h;refine⟨h.1,?_⟩;rw[cm];exact h.2
theorem QG1{ops:Array Oper}{md:Region.Mode}(hi:ops[i]? =some oi)(ho:oi.op= .move x)(hg:oi.guard=none)
  (hsel:∀(j:Nat) (o:Oper),ops[j]? =some o->(∀cs b,o.op≠ .select cs b)/\∀c,o.op≠ .defer c) (hQ:∀c a w,¬Q (.panic c) a w):
  ∀(fuel:Nat) (listed:Array Bool) (a:Act) (w:World),
   (∀j oj,ops[j]? =some oj->j≠i->listed.getD j true=false->(∀e∈oj.after,Region.binds md e=true->e.on≠i)->oi.apart ops oj=true)->
   i∈Region.ready md ops listed->
   wpAnyIn F n P md ops Q fuel (listed.setIfInBounds i true) (a.put oi.dst (a.eval x)) w->wpAnyIn F n P md ops Q (fuel+1) listed a w:=by
 intro fuel;induction fuel with
 |zero=>
  intro listed a w _ hr H;refine⟨λh=>(by rw[h]at hr;cases hr),λj hj=>?_⟩;by_cases hji:j=i
  ·subst hji;exact QDA hi ho hg H
  ·have:=ready_mono hj hji;rw[H.1]at this;cases this
 |succ fuel ih=>
  intro listed a w hfree hr H;refine⟨λh=>(by rw[h]at hr;cases hr),λj hj=>?_⟩;by_cases hji:j=i
  ·subst hji;exact QDA hi ho hg H
  ·have h1:=H.2 j (ready_mono hj hji);obtain⟨hjun,oj,hoj,hall⟩:=mem_ready.1 hj;have hnot:∀e∈oj.after,Region.binds md e=true->e.on≠i:=λe he hb heq=>by
    have h1:=hall e he hb;have h0:=(mem_ready.1 hr).1;rw[heq]at h1;rcases yj i listed.size with h'|h'
    ·simp [h']at h0 h1;rw[h0]at h1;cases h1
    ·simp [xh h']at h1
   have h2:=QIe hoj ho (hfree j oj hoj hji hjun hnot) (hsel j oj hoj).1 (hsel j oj hoj).2 hQ h1;have hfree':∀k ok,ops[k]? =some ok->k≠i->(listed.setIfInBounds j true).getD k true=false->
     (∀e∈ok.after,Region.binds md e=true->e.on≠i)->oi.apart ops ok=true:=λk ok hk hki hun hno=>by
    refine hfree k ok hk hki ?_ hno;by_cases hjk:j=k
    ·subst hjk;exact hjun
    ·rw [getD_set_ne true hjk]at hun;exact hun
   refine wpOpIn_mono (λa' w' h3=>ih (listed.setIfInBounds j true) a' w' hfree' (ready_mono hr (vb hji)) ?_) h2;rw[j6 _ _ hji];exact h3
theorem XN{a:Nat}(h:¬a<b):Nat.blt a b=false:=by
 cases hq:Nat.blt a b with
 |false=>rfl
 |true=>exact absurd (by simpa using hq) h
def up(h i:Nat):Nat:=bif Nat.blt i h then i else i+1
def dn(h j:Nat):Nat:=bif Nat.blt j h then j else j-1
theorem QCC{h:Nat}(hj:j≠h):up h (dn h j)=j:=by
 unfold up dn;by_cases hjh:j<h
 ·simp [ZZ hjh]
 ·rw [XN hjh,cond_false,XN (by omega),cond_false];omega
theorem QOa(h i:Nat):up h i≠h:=by
 unfold up;by_cases hjh:i<h
 ·rw [ZZ hjh,cond_true];omega
 ·rw [XN hjh,cond_false];omega
theorem QSR{h:Nat}(e:up h i=up h j):i=j:=by
 unfold up at e;by_cases hi:i<h
 ·by_cases hj:j<h
  ·rwa [ZZ hi,ZZ hj]at e
  ·rw [ZZ hi,XN hj,cond_true,cond_false]at e;omega
 ·by_cases hj:j<h
  ·rw [XN hi,ZZ hj,cond_true,cond_false]at e;omega
  ·rw [XN hi,XN hj,cond_false,cond_false]at e;omega
def edl(h:Nat):List Edge->List Edge
 |[]=>[]
 |e::t=>bif Nat.beq e.on h then edl h t else{e with on:=dn h e.on}::edl h t
def J3(h:Nat)(o:Oper):Oper:= {o with after:=(edl h o.after.toList).toArray,guard:=match o.guard with|none=>none|some (j,c)=>some (dn h j,c)}
def Qw:Nat->Nat->List Oper->List Oper
 |_,_,[]=>[]
 |h,0,_::t=>t.map (J3 h)
 |h,k+1,o::t=>J3 h o::Qw h k t
theorem QG2{h:Nat}{e:Edge}(he:e.on≠h):∀ {l:List Edge},e∈l->({e with on:=dn h e.on}:Edge)∈edl h l
 |e'::t,hm=>by
  unfold edl;rcases zi.1 hm with rfl|hm
  ·rw [show Nat.beq e.on h=false from Qy he];exact zo
  ·cases Nat.beq e'.on h with
   |true=>exact QG2 he hm
   |false=>exact zk _ (QG2 he hm)
theorem QLB{h:Nat}:∀(k:Nat) (l:List Oper) (i:Nat),(Qw h k l)[i]? =(l[bif Nat.blt i k then i else i+1]?).map (J3 h)
 |0,[],i=>by simp[Qw]
 |k+1,[],i=>by simp[Qw]
 |0,o::t,i=>by
  simp[Qw,XN (show¬i<0 by omega)]
 |k+1,o::t,0=>by simp[Qw,ZZ (show 0<k+1 by omega)]
 |k+1,o::t,i+1=>by
  simp only[Qw,Wu,QLB k t i];by_cases hi:i<k
  ·simp [ZZ hi,ZZ (show i+1<k+1 by omega)]
  ·simp [XN hi,XN (show¬i+1<k+1 by omega)]
theorem QG3{h:Nat}(l:List Oper)(i:Nat):(Qw h h l)[i]? =(l[up h i]?).map (J3 h):=QLB h l i
theorem QDf{h:Nat}:∀(k:Nat) (l:List Oper),k<l.length->(Qw h k l).length+1=l.length
 |0,o::t,_=>by simp[Qw]
 |k+1,o::t,hk=>by simp only[Qw,yq];rw[QDf k t (by simpa using hk)]
 |0,[],hk=>by simp at hk
 |k+1,[],hk=>by simp at hk
theorem QJx{h:Nat}{K:Act->World->Prop}(hh:(J3 h o).wpIn F n P a w K Q):o.wpIn F n P a w K Q:=hh
theorem QG4{h:Nat}{y y':Nat->Option Bool}(hy:∀j c,o.guard=some (j,c)->y' (dn h j)=y j):Region.wanted (J3 h o) y'=Region.wanted o y:=by
 unfold Region.wanted J3;cases hg:o.guard with
 |none=>rfl
 |some gc=>
  obtain⟨j,c⟩:=gc;simp only;rw[hy j c hg]
theorem QIf{h:Nat}{t:Array Value}(hj:j≠h):yielded (Qw h h ops).toArray t (dn h j)=yielded ops.toArray t j:=by
 unfold yielded;have e:((Qw h h ops).toArray[dn h j]?).bind (·.dst)=(ops.toArray[j]?).bind (·.dst):=by
  have h1:(Qw h h ops).toArray[dn h j]? =(ops.toArray[j]?).map (J3 h):=by
   have:=QG3 (h:=h) ops (dn h j);rw[QCC hj]at this;simpa using this
  rw[h1];cases ops.toArray[j]? <;>rfl
 rw[e]
def Lik(h:Nat)(l l':Array Bool):Prop:=∀i b,l'.getD i b=l.getD (up h i) b
theorem QOb{l l':Array Bool}(hb:∀b,l'.getD i b=l.getD j b):j<l.size↔i<l'.size:=by
 have a1:=hb true;have a2:=hb false;by_cases h1:j<l.size
 ·by_cases h2:i<l'.size
  ·simp [h1,h2]
  ·rw [show l'.getD i true=true by simp[Array.getD,h2]]at a1;rw[show l'.getD i false=false by simp[Array.getD,h2]]at a2;rw[show l.getD j true=l.getD j false by simp[Array.getD,h1],<-a2]at a1;cases a1
 ·by_cases h2:i<l'.size
  ·rw [show l.getD j true=true by simp[Array.getD,h1]]at a1;rw[show l.getD j false=false by simp[Array.getD,h1]]at a2;rw[show l'.getD i true=l'.getD i false by simp[Array.getD,h2],a2]at a1;cases a1
  ·simp [h1,h2]
theorem QG5{h:Nat}(hg:∀(j:Nat) (o:Oper),ops[j]? =some o->∀i c,o.guard=some (i,c)->i≠h):
  ∀(fuel:Nat) (l l':Array Bool) (a:Act) (w:World),Lik h l l'->l.getD h true=true->l.getD h false=true->
   wpAnyIn F n P .any (Qw h h ops).toArray Q fuel l' a w->wpAnyIn F n P .any ops.toArray Q fuel l a w:=by
 have rdy:∀(l l':Array Bool),Lik h l l'->l.getD h true=true->l.getD h false=true->∀j,j∈Region.ready .any ops.toArray l->j≠h/\dn h j∈Region.ready .any (Qw h h ops).toArray l':=λl l' hl h1 h2 j hj=>by
  obtain⟨k1,o,k2,k3⟩:=mem_ready.1 hj;have hjh:j≠h:=λe=>by rw[e,h1]at k1;cases k1
  refine⟨hjh,mem_ready.2 ⟨by rw[hl,QCC hjh];exact k1,J3 h o,?_,λe he hb=>?_⟩⟩
  ·have:=QG3 (h:=h) ops (dn h j);rw[QCC hjh]at this;have k2':ops[j]? =some o:=by simpa using k2
   rw[k2']at this;simpa using this
  ·have key:∀(es:List Edge),(∀e∈es,Region.binds .any e=true->l.getD e.on false=true)->∀e∈edl h es,Region.binds .any e=true->l'.getD e.on false=true:=by
    intro es;induction es with
    |nil=>intro _ e he;cases he
    |cons e0 t ih=>
     intro hes e he hb;unfold edl at he;cases hq:Nat.beq e0.on h with
     |true=>
      rw[hq]at he;exact ih (λe he=>hes e (zk _ he)) e he hb
     |false=>
      rw[hq]at he;rcases zi.1 he with rfl|he
      ·have hne:e0.on≠h:=λe'=>by rw[e',wc]at hq;cases hq
       show l'.getD (dn h e0.on) false=true;rw[hl,QCC hne];exact hes e0 zo hb
      ·exact ih (λe he=>hes e (zk _ he)) e he hb
   exact key o.after.toList (λe he hb=>k3 e (by simpa using he) hb) e (by simpa [J3]using he) hb
 intro fuel;induction fuel with
 |zero=>
  intro l l' a w hl h1 h2 hh;refine⟨?_,hh.2⟩;rw[uy];intro j hj;have:=(rdy l l' hl h1 h2 j hj).2;rw[hh.1]at this;cases this
 |succ fuel ih=>
  intro l l' a w hl h1 h2 hh;refine⟨λh0=>hh.1 ?_,λj hj=>?_⟩
  ·rw [uy];intro i hi;obtain⟨k1,o,k2,k3⟩:=mem_ready.1 hi;have k2':(Qw h h ops)[i]? =some o:=by simpa using k2
   rw[QG3]at k2';obtain⟨o',e1,e2⟩:=u5.1 k2';have:up h i∈Region.ready .any ops.toArray l:=by
    refine mem_ready.2 ⟨by rw[<-hl];exact k1,o',by simpa using e1,λe he hb=>?_⟩;by_cases hne:e.on=h
    ·rw [hne];exact h2
    ·have hm:({e with on:=dn h e.on}:Edge)∈o.after:=by
      subst e2;simpa [J3]using QG2 hne (by simpa using he)
     have:=k3 _ hm hb;rw[hl,QCC hne]at this;exact this
   rw[h0]at this;cases this
  ·obtain ⟨hjh,hr⟩:=rdy l l' hl h1 h2 j hj;have hs:=hh.2 _ hr;obtain⟨_,o,k2,_⟩:=mem_ready.1 hj;have k2':ops[j]? =some o:=by simpa using k2
   have hd:(Qw h h ops).toArray[dn h j]? =some (J3 h o):=by
    have:=QG3 (h:=h) ops (dn h j);rw[QCC hjh,k2']at this;simpa using this
   unfold wpOpIn at hs⊢;rw[hd]at hs;rw[k2];simp only at hs⊢;rw[QG4 (λi c hgc=>QIf (hg j o k2' i c hgc))]at hs;have nxt:∀a w,wpAnyIn F n P .any (Qw h h ops).toArray Q fuel (l'.setIfInBounds (dn h j) true) a w->wpAnyIn F n P .any ops.toArray Q fuel (l.setIfInBounds j true) a w:=λa w hx=>by
    refine ih _ _ a w (λi b=>?_) ?_ ?_ hx
    ·by_cases hij:dn h j=i
     ·subst hij;rw[QCC hjh];have hsz:=QOb (l:=l) (l':=l') (i:=dn h j) (j:=j) (λb=>by have:=hl (dn h j) b;rwa [QCC hjh]at this);by_cases hjl:j<l.size
      ·rw [Qm b (hsz.1 hjl),Qm b hjl]
      ·have hjl':¬dn h j<l'.size:=λh'=>hjl (hsz.2 h');simp[Array.getD,hjl',hjl]
     ·rw [getD_set_ne b hij,getD_set_ne b (λe=>hij (QSR (by rw[QCC hjh];exact e))),hl]
    ·rw [getD_set_ne true hjh];exact h1
    ·rw [getD_set_ne false hjh];exact h2
   split
   ·rename_i hw;simp only[hw,if_true]at hs;exact Oper.wpIn_mono nxt (QJx hs)
   ·rename_i hw;simp only[hw]at hs;exact⟨hs.1,nxt _ _ hs.2⟩
structure ZG(P:Program)(ti:Nat->Option Ty)(N:Nat)(ops:List Oper)(σ:S)(K:S->Prop):Prop where
 run:∀(κ:Ctx) (g:Gh) (a:Act) (w:World),St κ N g σ a w->∀Q:Exit->Act->World->Prop,(∀g' σ' a' w',K σ'->St κ N g' σ' a' w'->Q .normal a' w')->(∀c a w,¬Q (.panic c) a w)->
  wpAnyIn (wd κ.rd) 0 P .any ops.toArray Q ops.length (Array.replicate ops.length false) a w
theorem QX.of_A{id:Nat}(hm:P.follows .mixedOrders=true)(h:ZG P ti N ops σ K):QX P ti N id ops σ K:=by
 refine⟨λκ g a w _ hst=>wpIn_region_any hm ?_⟩;have hst':St κ N g σ a {w with drawn:=w.drawn+1}:=⟨hst.size,hst.defers,hst.sl,hst.inv.drew _,hst.ok⟩;rw[We];refine h.run κ g a _ hst' _ (λg' σ' a' w' hK hst2=> .of hK hst2) (λc a w hp=>?_);obtain⟨_,_,_,_,hf,_⟩:=hp;exact hf
theorem QJy(hti:QU P ti)(m:Nat)(hB:QCf ops m=true)(h:JS P ti N ops (ops.take m) σ λσ'=>Zp P ti N ops (ops.drop m) σ' K):ZG P ti N ops σ K:=by
 unfold QCf at hB;split at hB
 ·rename_i ms hms;simp only[zf]at hB;obtain⟨⟨hm',hw⟩,hf⟩:=hB;have hml:=yg hm';refine⟨fun κ g a w hst Q hQ _=>?_⟩;obtain⟨vs,σ',htail,hok',hmem,hnx,hch⟩:=YS hti _ σ hst.ok h;have:=QK3 (Q:=Q) hti hms hml (fun i' h1 h2=>YU hf i' h1 (by omega)) hw hst.ok hok' hmem hnx hch hQ htail m (List.range m) (Array.replicate ops.length false) g a w
    xj qf (λk=>by
     rw[xd];refine⟨λhk=>⟨hk,by simp[Array.getD,show k<ops.length by omega]⟩,λhk=>hk.1⟩) (by simp) (λk _ hk=>by simp[Array.getD,hk]) (λk o _ hk=>by simp[Array.getD]at hk)
    ⟨hst.size,hst.defers,hst.inv,λi d hi=>by simp[Array.getD]at hi,λk v hk _=>hst.sl k v hk⟩
  rw[show m+(ops.length-m)=ops.length by omega]at this;exact this
 ·cases hB
def QVR:Op->Bool
 | .move _=>true
 |_=>false
def QJz:Op->Bool
 | .select .. | .defer _=>false
 |_=>true
def QBB(h:Nat)(o:Oper):Bool:=match o.guard with|none=>true|some (j,_)=> !Nat.beq j h
def QG6(N:Nat)(ops:List Oper)(h:Nat):Bool:=
 match ops[h]? with
 |some o=>QVR o.op&&(match o.guard with|none=>true|some _=>false)&&(match o.dst with|some d=>Nat.blt d N|none=>false)&&o.after.toList.all (λe=> !Region.binds .any e)&&ops.all (λo=>QJz o.op&&QBB h o)&&
   Region.free .any ops.toArray (Array.replicate ops.length false) h
 |none=>false
def Jz(ops:List Oper)(h:Nat)(σ:S)(K':S->Prop):Prop:=
 match ops[h]? with
 |some o=>match o.op,o.dst with
  | .move x,some d=>match ρ σ.sl x with
   |some v=>K' ⟨(d,v)::σ.sl,σ.mem,σ.nx⟩
   |none=>False
  |_,_=>False
 |none=>False
theorem ZG.hoist(h:Nat)(hB:QG6 N ops h=true)(hK:Jz ops h σ λσ'=>ZG P ti N (Qw h h ops) σ' K):ZG P ti N ops σ K:=by
 unfold QG6 at hB;unfold Jz at hK;cases ho:ops[h]? with
 |none=>rw[ho]at hB;cases hB
 |some o=>
 rw[ho]at hB hK;simp only[zf]at hB;obtain⟨⟨⟨⟨⟨b1,b2⟩,b3⟩,b4⟩,b5⟩,b6⟩:=hB;simp only at hK;split at hK
 ·rename_i x d hop hd;split at hK
  ·rename_i v hv;have hg:o.guard=none:=by
    cases hq:o.guard with
    |none=>rfl
    |some _=>rw[hq]at b2;cases b2
   have hdN:d<N:=by rw[hd]at b3;simpa using b3
   have hhl:h<ops.length:=(z6.1 ho).1;have ho':ops.toArray[h]? =some o:=by simpa using ho
   have hall:∀(j:Nat) (o':Oper),ops[j]? =some o'->QJz o'.op=true/\QBB h o'=true:=λj o' hj=>by
    have:=ze.1 b5 o' (ya hj);simpa using this
   refine⟨λκ g a w hst Q hQ hP=>?_⟩;have hav:=ρ_ok hst.sl hv;have hst1:St κ N g ⟨(d,v)::σ.sl,σ.mem,σ.nx⟩ (a.put o.dst (a.eval x)) w:=by
    rw[hd];exact hst.put hdN (.refl _ _) hst.inv hav (S.ok_cons hst.ok (zt _) (ρ_lt hst.ok hv) (S.ok_memAll hst.ok))
   have h1:=hK.run κ g _ w hst1 Q hQ hP;have hdl:=QDf (h:=h) h ops hhl;obtain⟨m,hm⟩:∃m,ops.length=m+1:=⟨ops.length-1,by omega⟩;have hdm:(Qw h h ops).length=m:=by omega
   rw[hdm]at h1;rw[hm];refine QG1 ho' hop hg (λj o' hj=>?_) hP m _ a w ?_ ?_ ?_
   ·have:=(hall j o' (by simpa using hj)).1;refine⟨λcs b hq=>?_,λc hq=>?_⟩<;>rw[hq]at this<;>cases this
   ·intro j oj hj hne hun hno;have:=Wn ho' b6 j oj hj hne (by rw[hm];exact hun) hno;exact this
   ·refine mem_ready.2 ⟨by simp[Array.getD];omega,o,ho',λe he hb=>?_⟩;have:=ze.1 b4 e (by simpa using he);rw[hb]at this;cases this
   ·refine QG5 (h:=h) (λj o' hj i c hgc hih=>?_) m _ _ _ w ?_ ?_ ?_ h1
    ·have:=(hall j o' hj).2;unfold QBB at this;rw[hgc]at this;simp only[hih,wc,vw]at this;cases this
    ·intro i b;rw[getD_set_ne b (vb (QOa h i))];by_cases hi:i<m
     ·have:up h i<m+1:=by
       unfold up;by_cases hih:i<h
       ·rw [ZZ hih,cond_true];omega
       ·rw [XN hih,cond_false];omega
      simp[Array.getD,hi,this]
     ·have:¬up h i<m+1:=by
       unfold up;by_cases hih:i<h
       ·rw [ZZ hih,cond_true];omega
       ·rw [XN hih,cond_false];omega
      simp[Array.getD,hi,this]
    ·exact Qm true (by simp;omega)
    ·exact Qm false (by simp;omega)
  ·exact hK.elim
 ·exact hK.elim
theorem QZ(hti:QU P ti)(hm:P.follows .mixedOrders=true){id:Nat}(h:Nat)(hB:(QG6 N ops h&&QCf (Qw h h ops) (cut (Qw h h ops)))=true)
  (hK:Jz ops h σ λσ'=>JS P ti N (Qw h h ops) ((Qw h h ops).take (cut (Qw h h ops))) σ' λσ'=>Zp P ti N (Qw h h ops) ((Qw h h ops).drop (cut (Qw h h ops))) σ' K):QX P ti N id ops σ K:=by
 simp only[zf]at hB;refine .of_A hm (.hoist h hB.1 ?_);unfold Jz at hK⊢;split at hK
 ·split at hK
  ·split at hK
   ·exact QJy hti _ hB.2 hK
   ·exact hK.elim
  ·exact hK.elim
 ·exact hK.elim
end
inductive Tr where
 |nil
 |cons(i:Nat)(sub rest:Tr)
def Tr.isNil:Tr->Bool
 | .nil=>true
 |_=>false
def Tr.heads:Tr->List Nat
 | .nil=>[]
 | .cons i _ r=>i::r.heads
def QEj(ops:List Oper)(done:List Nat)(j:Nat):Bool:=
 !Xf j done&&(match ops[j]? with|some o=>o.after.toList.all (λe=> !Region.binds .any e||Xf e.on done)|none=>false)
def QIg(ops:List Oper)(done hs:List Nat):Bool:=(List.range ops.length).all λj=> !QEj ops done j||Xf j hs
def QDO(ops:List Oper):List Nat->Tr->Bool
 |_,.nil=>true
 |done,.cons i sub rest=>Nat.blt i ops.length&&QEj ops done i&&QIg ops (i::done) sub.heads&&QDO ops (i::done) sub&&QDO ops done rest
variable {listed:Array Bool}
variable {done:List Nat}
variable {κ:Ctx}
section
variable {P:Program} {ti:Nat->Option Ty} {N:Nat} {F:Fence} {n:Nat}
structure Br(A B:Prop):Prop where
 l:A
 r:B
def evC(P:Program)(ti:Nat->Option Ty)(N:Nat)(ops:List Oper)(K:S->Prop):Tr->S->Prop
 | .nil,_=>True
 | .cons i sub rest,σ=>Br (match ops[i]? with
  |some o=>Zp P ti N ops [o] σ λσ'=>bif sub.isNil then K σ' else evC P ti N ops K sub σ'
  |none=>False) (evC P ti N ops K rest σ)
structure Dn(m:Nat)(listed:Array Bool)(done:List Nat):Prop where
 size:listed.size=m
 mem:∀k,k<m->∀b,listed.getD k b=true↔k∈done
 nd:done.Nodup
 lt:∀k∈done,k<m
theorem QCi:∀(m:Nat) (l:List Nat),l.Nodup->(∀k∈l,k<m)->l.length<=m
 |0,[],_,_=>zt _
 |0,k::_,_,h=>absurd (h k zo) (Nat.not_lt_zero _)
 |m+1,l,hn,h=>by
  have h1:=QCi m (l.erase m) (hn.erase m) λk hk=>by
   have h2:=(hn.mem_erase_iff).1 hk;have:=h k h2.2;omega
  by_cases hm:m∈l
  ·rw [jz hm]at h1;omega
  ·rw [List.erase_of_not_mem hm]at h1;omega
theorem QJ0(hd:Dn ops.length listed done)(hj:j∈Region.ready .any ops.toArray listed):QEj ops done j=true/\j<ops.length/\j∉done:=by
 obtain⟨k1,o,k2,k3⟩:=mem_ready.1 hj;have k2':ops[j]? =some o:=by simpa using k2
 have hjl:=(z6.1 k2').1;have hjd:j∉done:=λh=>by
  have:=(hd.mem j hjl true).2 h;rw[this]at k1;cases k1
 refine⟨?_,hjl,hjd⟩;unfold QEj;rw[k2'];have hm:Xf j done=false:=by
  cases hq:Xf j done with
  |false=>rfl
  |true=>exact absurd (ZF.1 hq) hjd
 rw[hm];simp only[u4,wz,ze,wj,wx];intro e he;cases hb:Region.binds .any e with
 |false=>exact .inl rfl
 |true=>
  right;have hl:=k3 e (by simpa using he) hb;by_cases hel:e.on<ops.length
  ·exact ZF.2 ((hd.mem _ hel false).1 hl)
  ·simp [Array.getD,hd.size,hel]at hl
theorem QJ1(hd:Dn ops.length listed done)(hj:j<ops.length)(h:QEj ops done j=true):j∈Region.ready .any ops.toArray listed:=by
 unfold QEj at h;simp only[zf,wx]at h;obtain⟨h1,h2⟩:=h;have hjd:j∉done:=λhh=>by rw[ZF.2 hh]at h1;cases h1
 have hjo:ops[j]? =some ops[j]:=zj hj;rw[hjo]at h2;refine mem_ready.2 ⟨?_,ops[j],by simpa using hjo,λe he hb=>?_⟩
 ·cases hq:listed.getD j true with
  |false=>rfl
  |true=>exact absurd ((hd.mem j hj true).1 hq) hjd
 ·have:=ze.1 h2 e (by simpa using he);rw[hb]at this;simp only[vw,ul]at this;have hm:=ZF.1 this;exact(hd.mem _ (hd.lt _ hm) false).2 hm
theorem QIh(hti:QU P ti)(hQ:∀g' σ' a' w',K σ'->St κ N g' σ' a' w'->Q .normal a' w'):
  ∀(T:Tr) (all:Tr) (done:List Nat),QDO ops done T=true->(∀(i:Nat) (sub:Tr),True)->
   (∀fuel listed σ g a w,Dn ops.length listed done->fuel+done.length=ops.length->evC P ti N ops K T σ->St κ N g σ a w->∀i∈T.heads,∃fuel',fuel=fuel'+1/\wpOpIn (wd κ.rd) 0 P ops.toArray Q i (wpAnyIn (wd κ.rd) 0 P .any ops.toArray Q fuel' (listed.setIfInBounds i true)) a w):=by
 intro T;induction T with
 |nil=>intro _ done _ _ fuel listed σ g a w _ _ _ _ i hi;cases hi
 |cons i sub rest ihs ihr=>
  intro all done hok _ fuel listed σ g a w hd hf hev hst j hj;simp only[QDO,zf,yc]at hok;obtain⟨⟨⟨⟨b1,b2⟩,b3⟩,b4⟩,b5⟩:=hok;obtain⟨he,hr⟩:=hev;by_cases hji:j=i
  ·subst hji;have hid:j∉done:=λh=>by unfold QEj at b2;rw[ZF.2 h]at b2;simp at b2
   have hnd:(j::done).Nodup:=vo.2 ⟨hid,hd.nd⟩;have hltd:∀k∈j::done,k<ops.length:=λk hk=>by
    rcases zi.1 hk with rfl|hk
    ·exact b1
    ·exact hd.lt k hk
   have hlen:=QCi ops.length (j::done) hnd hltd;simp only[yq]at hlen;obtain⟨fuel',rfl⟩:∃f,fuel=f+1:=⟨fuel-1,by omega⟩;refine⟨fuel',rfl,?_⟩;have hio:ops[j]? =some ops[j]:=zj b1;rw[hio]at he;simp only at he;refine QBX hti hio he hst λg' σ' a' w' hK hst'=>?_;have hd':Dn ops.length (listed.setIfInBounds j true) (j::done):=by
    refine⟨by simp[hd.size],λk hk b=>?_,hnd,hltd⟩;by_cases hjk:j=k
    ·subst hjk;rw[Qm b (by rw[hd.size];exact hk)];simp
    ·rw [getD_set_ne b hjk,hd.mem k hk b,zi];exact⟨.inr,λh=>h.resolve_left (vb hjk)⟩
   have hcov:∀k,k∈Region.ready .any ops.toArray (listed.setIfInBounds j true)->k∈sub.heads:=λk hk=>by
    obtain⟨r1,r2,_⟩:=QJ0 hd' hk;have:=ze.1 b3 k (xd.2 r2);rw[r1]at this;simp only[vw,ul]at this;exact ZF.1 this
   have hK':(bif sub.isNil then K σ' else evC P ti N ops K sub σ'):=hK;cases hsub:sub with
   |nil=>
    rw[hsub]at hK' hcov;refine wpAnyIn_done ?_ (hQ _ _ _ _ hK' hst') fuel';rw[uy];intro k hk;have:=hcov k hk;cases this
   |cons i' s' r'=>
    rw[hsub]at hK';have hs:=ihs sub (j::done) b4 (λ_ _=>trivial) fuel' _ σ' g' a' w' hd' (by simp only[yq];omega) (by rw[hsub];exact hK') hst';obtain⟨f2,rfl,_⟩:=hs i' (by rw[hsub];exact zo);refine⟨λh0=>?_,λk hk=>?_⟩
    ·exfalso;rw[hsub]at b4;simp only[QDO,zf,yc]at b4;have:=QJ1 hd' b4.1.1.1.1 b4.1.1.1.2;rw[h0]at this;cases this
    ·obtain ⟨f3,e3,h3⟩:=hs k (hcov k hk);obtain rfl:f2=f3:=by omega
     exact h3
  ·rcases zi.1 hj with rfl|hj
   ·exact absurd rfl hji
   ·exact ihr all done b5 (λ_ _=>trivial) fuel listed σ g a w hd hf hr hst j hj
theorem ZG.tree(hti:QU P ti)(T:Tr)(hB:(QIg ops [] T.heads&&QDO ops [] T&& !T.isNil)=true)(h:evC P ti N ops K T σ):ZG P ti N ops σ K:=by
 simp only[zf,wx]at hB;obtain⟨⟨b1,b2⟩,b3⟩:=hB;refine⟨λκ g a w hst Q hQ _=>?_⟩;have hd:Dn ops.length (Array.replicate ops.length false) []:=⟨by simp,λk hk b=>by simp[Array.getD,hk],w9,λk hk=>by cases hk⟩;have hs:=QIh (N:=N) hti hQ T T [] b2 (λ_ _=>trivial) ops.length _ σ g a w hd (by simp) h hst;cases T with
 |nil=>cases b3
 |cons i' s' r'=>
  obtain⟨f,hf,_⟩:=hs i' zo;rw[hf]at hs⊢;refine⟨λh0=>?_,λk hk=>?_⟩
  ·exfalso;simp only[QDO,zf,yc]at b2;have:=QJ1 hd b2.1.1.1.1 b2.1.1.1.2;rw[hf]at this;rw[h0]at this;cases this
  ·have hcov:k∈(Tr.cons i' s' r').heads:=by
    rw[<-hf]at hk;obtain⟨r1,r2,_⟩:=QJ0 hd hk;have:=ze.1 b1 k (xd.2 r2);rw[r1]at this;simp only[vw,ul]at this;exact ZF.1 this
   obtain⟨f3,e3,h3⟩:=hs k hcov;obtain rfl:f=f3:=by omega
   exact h3
def hTree(P:Program)(ti:Nat->Option Ty)(N:Nat)(K:S->Prop)(T:Tr):List Nat->List Oper->S->Prop
 |[],ops,σ=>evC P ti N ops K T σ
 |h::hs,ops,σ=>Jz ops h σ λσ'=>hTree P ti N K T hs (Qw h h ops) σ'
def QG7(N:Nat)(T:Tr):List Nat->List Oper->Bool
 |[],ops=>QIg ops [] T.heads&&QDO ops [] T&& !T.isNil
 |h::hs,ops=>QG6 N ops h&&QG7 N T hs (Qw h h ops)
theorem Jz.mono{h:Nat}{A B:S->Prop}(hab:∀σ,A σ->B σ)(hk:Jz ops h σ A):Jz ops h σ B:=by
 unfold Jz at hk⊢;split at hk
 ·split at hk
  ·split at hk
   ·exact hab _ hk
   ·exact hk.elim
  ·exact hk.elim
 ·exact hk.elim
theorem ZG.hTree(hti:QU P ti){T:Tr}:∀(hs:List Nat) (ops:List Oper) (σ:S),QG7 N T hs ops=true->Sy.hTree P ti N K T hs ops σ->ZG P ti N ops σ K
 |[],ops,σ,hB,h=> .tree hti T hB h
 |k::hs,ops,σ,hB,h=>by
  simp only[QG7,zf]at hB;exact .hoist k hB.1 (h.mono λσ' hk=>ZG.hTree hti hs _ σ' hB.2 hk)
theorem YA(hti:QU P ti)(hm:P.follows .mixedOrders=true){id:Nat}(hs:List Nat)(T:Tr)(hB:QG7 N T hs ops=true)(h:hTree P ti N K T hs ops σ):QX P ti N id ops σ K:= .of_A hm (.hTree hti hs ops σ hB h)
end
section
variable {P:Program} {ti:Nat->Option Ty} {N:Nat}
end
variable {g g':Gh}
variable {es l':List (List D)}
variable {fl kd:Bool}
theorem QJ2(hv:ZM g w n t sz es fl)(hfrz:∀b o v,g.F b o=some v->w.cell? ⟨b,o,none⟩=some v):
  ∃F':Nat->Nat->Option Value,(∀b o x,g.F b o=some x->F' b o=some x)/\(∀b o x,F' b o=some x->g.F b o=some x\/(b=g.blk n/\g.has n=true))/\(∀b o x,F' b o=some x->w.cell? ⟨b,o,none⟩=some x)/\
   (∀b o,g.F b o=none->(g.has n=true->b≠g.blk n)->F' b o=none)/\∀i len u,i+len<=es.length->AVR g (.vx sz n i len) u->DR F' (.fs sz ((es.drop i).take len)) u:=by
 obtain⟨v1,v2,v3⟩:=hv;cases hh:g.has n with
 |false=>
  have he:=v2 hh;subst he;refine⟨g.F,λ_ _ _ h=>h,λ_ _ _ h=> .inl h,hfrz,λ_ _ h _=>h,λi len u hle hu=>?_⟩;cases hu with|vx _ _ _ _ ad c hc had=>?_
  simp at hle;obtain⟨rfl,rfl⟩:i=0/\len=0:=by omega
  exact .fs0 _ _ _
 |true=>
  obtain⟨arr,e1,e2,e3,e4,e5,_,_⟩:=v3 hh;refine⟨ZL g n arr.size arr,λb o x hx=>?_,λb o x hx=>?_,λb o x hx=>?_,λb o hx hb=>?_,λi len u hle hu=>?_⟩
  ·unfold ZL;by_cases hb:b=g.blk n
   ·subst hb;rw[e5]at hx;cases hx
   ·rw [if_neg hb];exact hx
  ·unfold ZL at hx;by_cases hb:b=g.blk n
   ·exact .inr ⟨hb,rfl⟩
   ·rw [if_neg hb]at hx;exact .inl hx
  ·unfold ZL at hx;by_cases hb:b=g.blk n
   ·subst hb;rw[if_pos rfl]at hx;by_cases ho:o<arr.size
    ·rw [if_pos ho]at hx;obtain rfl:=za hx;simp[World.cell?,e1,Array.getD,ho]
    ·rw [if_neg ho]at hx;cases hx
   ·rw [if_neg hb]at hx;exact hfrz b o x hx
  ·unfold ZL;rw[if_neg (hb rfl)];exact hx
  ·cases hu with|vx _ _ _ _ ad c hc had=>?_
   have hlen:((es.drop i).take len).length=len:=by simp;omega
   by_cases h0:len=0
   ·subst h0;rw[List.take_zero];exact .fs0 _ _ _
   ·obtain ⟨_,rfl,hcp⟩:=had.pos (by omega);have hbd:(i+len)*sz<=g.cp n:=xy (zw _ hle) e3;rw[z2]at hbd;refine .fs _ _ _ _ _ _ (λi' j=>arr.getD (g.hi n+i*sz+i'*sz+j) undef) hlen hc (λi' hi'=>v1 _ (xx (xg (zm hi')))) (λi' j hi' hj=>?_) λi' hi' j hj=>?_
    ·have hm1:i'*sz+sz<=len*sz:=by
      have:(i'+1)*sz<=len*sz:=zw _ (by omega);rw[z2]at this;omega
     show ZL g n arr.size arr (g.blk n) (g.hi n+i*sz+i'*sz+j)=_;unfold ZL;rw[if_pos rfl,if_pos (by omega)]
    ·have hk':i+i'<es.length:=by omega
     have hke:((es.drop i).take len)[i']=es[i+i']:=by simp
     have hj':j<es[i+i'].length:=by rw[<-hke];exact hj
     have:=e4 (i+i') hk' j hj';rw[z2]at this;rw[show g.hi n+i*sz+i'*sz+j=g.hi n+(i*sz+i'*sz)+j by omega];simp only[hke];refine this.mono λb o x hx=>?_;unfold ZL;by_cases hb:b=g.blk n
     ·subst hb;rw[e5]at hx;cases hx
     ·rw [if_neg hb];exact hx
inductive Fz(sz n:Nat)(es:List (List D)):AV->AV->Prop
 |same(u:AV):Fz sz n es u u
 |vx(i len:Nat)(l:List (List D))(h:i+len<=es.length)(hl:l=(es.drop i).take len):Fz sz n es (.vx sz n i len) (.d (.fs sz l))
 |ts(k:Nat)(l:List (List D))(m:Nat):Fz sz n es (.ts k l m) (.d (.fs k l))
 |tg(k:Nat)(l:List (List D)):Fz sz n es (.tg k l) (.d (.fs k l))
 |nl(k:Nat):Fz sz n es (.nl k) (.d (.fs k []))
inductive FzO(sz n:Nat)(es:List (List D)):Ob->Ob->Prop
 |same(o:Ob):FzO sz n es o o
 |cell(u v:AV)(h:Fz sz n es u v)(hs:v.sc=true):FzO sz n es (.cells 1 [u]) (.cells 1 [v])
variable {F':Nat->Nat->Option Value}
theorem Fz.avr{x:Value}(h:Fz sz n es u v)(hF:∀b o x,g.F b o=some x->F' b o=some x)(hv:∀i len u,i+len<=es.length->AVR g (.vx sz n i len) u->DR F' (.fs sz ((es.drop i).take len)) u)(hlt:u.lt m=true)(hx:AVR g u x):AVR {g with F:=F'} v x:=by
 cases h with
 |same=>exact AVR.ext (m:=m) (g:=g) (g':= {g with F:=F'}) ⟨hF,λ_ _=>rfl,λ_ _=>rfl,λ_ _=>rfl,λ_ _=>rfl⟩ hlt hx
 |vx i len l h hl=>subst hl;exact .d _ _ (hv i len x h hx)
 |ts k l m'=>
  cases hx with
  |ts0 _ _ _ _ _ _ hd=>exact .d _ _ (hd.mono hF)
  |ts _ _ _ _ _ _ _ _ hd=>exact .d _ _ (hd.mono hF)
 |tg k l=>cases hx with|tg _ _ _ _ _ hd=>exact .d _ _ (hd.mono hF)
 |nl k=>cases hx;exact .d _ _ (.fs0 _ _ _)
section
variable {P:Program} {ti:Nat->Option Ty} {N:Nat}
structure Wk(N:Nat)(σ τ:S):Prop where
 run:∀(κ:Ctx) (g:Gh) (a:Act) (w:World),St κ N g σ a w->∃g',St κ N g' τ a w
theorem Wk.en(h:En σ τ):Wk N σ τ:=⟨λκ g a w hst=>⟨g,h.st hst⟩⟩
theorem QOc(hm:look n σ.mem=some (.vec t sz es fl))(hs:∀k v,look k τ.sl=some v->∃u,look k σ.sl=some u/\Fz sz n es u v)
  (hmem:∀k ob,look k τ.mem=some ob->k≠n/\∃ob',look k σ.mem=some ob'/\FzO sz n es ob' ob) (hok:τ.ok=true) (hst:St κ N g σ a w):∃F',St κ N {g with F:=F'} τ a w:=by
 obtain⟨F',f1,f2,f3,f4,f5⟩:=QJ2 (hst.inv.obs n _ hm) hst.inv.frz;have hE:∀M,Ext M g {g with F:=F'}:=λM=>⟨f1,λ_ _=>rfl,λ_ _=>rfl,λ_ _=>rfl,λ_ _=>rfl⟩;have hn:g.has n=true->On g σ.mem n:=λh=>by unfold On;rw[hm];exact h
 have on:∀k,On {g with F:=F'} τ.mem k->k≠n/\On g σ.mem k:=λk h=>by
  unfold On at h⊢;cases hl:look k τ.mem with
  |none=>rw[hl]at h;exact h.elim
  |some ob=>
   rw[hl]at h;obtain⟨h1,ob',h2,h3⟩:=hmem k ob hl;refine⟨h1,?_⟩;rw[h2];cases h3 with
   |same=>exact h
   |cell=>trivial
 have hF:∀k,On {g with F:=F'} τ.mem k->∀o,g.F (g.blk k) o=none->F' (g.blk k) o=none:=λk h o hx=>by
  obtain⟨h1,h2⟩:=on k h;exact f4 _ _ hx λhh=>hst.inv.inj k n h1 h2 (hn hh)
 refine⟨F',hst.size,hst.defers,λk v hk=>?_,⟨f3,λk ob hk=>?_,λk m hkm h h'=>hst.inv.inj k m hkm (on k h).2 (on m h').2,hst.inv.size,hst.inv.pres,λk h=>hst.inv.own k (on k h).2,λb o v h=>f1 _ _ _ (hst.inv.f0 b o v h),λb o v h=>?_,hst.inv.os,hst.inv.tape,hst.inv.output,hst.inv.dfr⟩,hok⟩
 ·obtain ⟨u,hu,hz⟩:=hs k v hk;exact hz.avr f1 f5 (S.ok_sl hst.ok hu) (hst.sl k u hu)
 ·obtain ⟨hkn,ob',hob',hz⟩:=hmem k ob hk;have hob:=hst.inv.obs k ob' hob';have hlt:=(S.ok_mem hst.ok hob').2;cases hz with
  |same=>
   cases ob with
   |cells size c=>
    obtain⟨arr,T,e1,e2,e3,e4,e5,e6⟩:=hob;simp only[Ob.lt,ze]at hlt;exact⟨arr,T,e1,e2,e3,e4,λj hj=>(e5 j hj).ext1 (hE σ.nx) (hlt _ (zm hj)),λo=>hF k (by unfold On;rw[hk];trivial) o (e6 o)⟩
   |tail t b=>
    refine⟨λhh=>?_,hob.2⟩;obtain⟨arr,u,e1,e2,e3,e4⟩:=hob.1 hh;exact⟨arr,u,e1,e2,e3,λo ho=>hF k (by unfold On;rw[hk];exact hh) o (e4 o ho)⟩
   |vec t' sz' es' f'=>exact ZM.mono hob f1 rfl rfl rfl rfl (λ_=>rfl) (λhh o ho=>hF k (by unfold On;rw[hk];exact hh) o ho)
   |tag m t'=>exact hob
   |frame sz' l=>
    simp only[Ob.lt,ze]at hlt;exact⟨hob.1,λs v hs=>(hob.2 s v hs).ext (hE σ.nx) (hlt _ (Qb hs))⟩
   |loop k' ps asg body st pd=>exact hob
   |mp b ag tp l=>exact ZQ.mono hob f1 rfl rfl rfl rfl (λ_=>rfl) (λhh o ho=>hF k (by unfold On;rw[hk];exact hh) o ho)
  |cell u v h hsc=>
   obtain⟨arr,T,e1,e2,e3,e4,e5,e6⟩:=hob;have h5:=e5 0 (by simp);simp only[Ob.lt,y9,xr,wh]at hlt;have hlt':u.lt σ.nx=true:=by
    cases u<;>first|exact hlt|(simp only[AV.lt1,AV.lt0]at hlt;cases hlt)
   refine⟨arr,T,e1,e2,rfl,λj hj=>?_,λj hj=>?_,λo=>hF k (by unfold On;rw[hk];trivial) o (e6 o)⟩
   ·obtain rfl:j=0:=by simp at hj;omega
    exact hsc
   ·obtain rfl:j=0:=by simp at hj;omega
    exact h.avr f1 f5 hlt' h5
 ·rcases f2 b o v h with h|⟨rfl,hh⟩
  ·exact hst.inv.fnew b o v h
  ·exact .inr (hst.inv.own n (hn hh))
theorem Wk.frz(hm:look n σ.mem=some (.vec t sz es fl))(hs:∀k v,look k τ.sl=some v->∃u,look k σ.sl=some u/\Fz sz n es u v)
  (hmem:∀k ob,look k τ.mem=some ob->k≠n/\∃ob',look k σ.mem=some ob'/\FzO sz n es ob' ob) (hok:τ.ok=true):Wk N σ τ:=⟨λκ g a w hst=>by
 obtain⟨F',h⟩:=QOc hm hs hmem hok hst;exact⟨_,h⟩⟩
theorem Wk.trans{υ:S}(h:Wk N σ τ)(h':Wk N τ υ):Wk N σ υ:=⟨λκ g a w hst=>by
 obtain⟨g',h1⟩:=h.run κ g a w hst;exact h'.run κ g' a w h1⟩
def QSS(N:Nat){α:Type}(I:α->Prop)(A:α->S)(μ:α->Nat)(Q:Exit->S->Prop)(x:α):Exit->S->Prop
 | .normal,σ=>∃y,I y/\μ y<μ x/\Wk N σ (A y)
 |e,σ=>Q e σ
theorem Ql{α:Type}{Q:Exit->S->Prop}(hti:QU P ti)(I:α->Prop)(A:α->S)(μ:α->Nat)(x:α)(hx:I x)(h0:Wk N σ (A x))(step:∀x,I x->vc P ti N body (QSS N I A μ Q x) (A x)):Q7 P N body Q σ:=by
 refine⟨λκ g a w hr hst=>wpIn_loop_rounds (μ x+1) ?_⟩;have key:∀n x (κ:Ctx) g a w,(κ.rd=none\/Zs body=true)->μ x<n->I x->St κ N g (A x) a w->Code.roundsIn (wd κ.rd) 0 P body (QBV κ N Q) n a w:=by
  intro n;induction n with
  |zero=>intro x κ g a w _ h;omega
  |succ n ih=>
   intro x κ g a w hr hlt hI hst;rw[roundsIn_succ];refine wpIn_mono (Z0 hti body _ _ (step x hI) κ g a w hr hst) λe a' w' ⟨l,g',σ',hl,hq,hst'⟩=>?_;cases e with
   |normal=>
    obtain⟨y,hy,hmu,hen⟩:=hq;obtain⟨g2,hst2⟩:=hen.run _ _ _ _ hst';exact XS (λe a w hp=>hp.app hl) n a' w' (ih y (κ.add l) g2 a' w' hr (by omega) hy hst2)
   |_=>exact⟨l,g',σ',hl,hq,hst'⟩
 obtain⟨g2,hst2⟩:=h0.run κ g a w hst;exact key _ x κ g2 a w hr (by omega) hx hst2
end
def QT6(sz n:Nat)(es:List (List D))(l:List (Nat×AV))(k:Nat)(v:AV):Prop:=
 match look k l with
 |some u=>Fz sz n es u v
 |none=>False
def FzL(sz n:Nat)(es:List (List D))(l:List (Nat×AV)):List (Nat×AV)->Prop
 |[]=>True
 |(k,v)::t=>QT6 sz n es l k v/\FzL sz n es l t
def QQw(sz n:Nat)(es:List (List D))(l:List (Nat×Ob))(k:Nat)(v:Ob):Prop:=
 match look k l with
 |some u=>FzO sz n es u v
 |none=>False
def FzM(sz n:Nat)(es:List (List D))(l:List (Nat×Ob)):List (Nat×Ob)->Prop
 |[]=>True
 |(k,v)::t=>Nat.beq k n=false/\QQw sz n es l k v/\FzM sz n es l t
theorem FzL.look{l m:List (Nat×AV)}(h:FzL sz n es l m)(hk:look k m=some v):∃u,look k l=some u/\Fz sz n es u v:=by
 have hm:=Qb hk;clear hk;induction m with
 |nil=>cases hm
 |cons p t ih=>
  obtain⟨k',v'⟩:=p;rcases zi.1 hm with h'|h'
  ·cases h';have:=h.1;unfold QT6 at this;cases hu:Sy.look k l with
   |none=>rw[hu]at this;exact this.elim
   |some u=>rw[hu]at this;exact⟨u,rfl,this⟩
  ·exact ih h.2 h'
theorem FzM.look{l m:List (Nat×Ob)}(h:FzM sz n es l m){v:Ob}(hk:look k m=some v):k≠n/\∃u,look k l=some u/\FzO sz n es u v:=by
 have hm:=Qb hk;clear hk;induction m with
 |nil=>cases hm
 |cons p t ih=>
  obtain⟨k',v'⟩:=p;rcases zi.1 hm with h'|h'
  ·cases h';refine⟨Nat.ne_of_beq_eq_false h.1,?_⟩;have:=h.2.1;unfold QQw at this;cases hu:Sy.look k l with
   |none=>rw[hu]at this;exact this.elim
   |some u=>rw[hu]at this;exact⟨u,rfl,this⟩
  ·exact ih h.2.2 h'
inductive Vw:AV->AV->Prop
 |same(u:AV):Vw u u
 |ts(k:Nat)(l:List (List D))(m:Nat):Vw (.ts k l m) (.d (.fs k l))
 |tg(k:Nat)(l:List (List D)):Vw (.tg k l) (.d (.fs k l))
 |nl(k:Nat):Vw (.nl k) (.d (.fs k []))
 |an(u:AV)(h:u.sc=true):Vw u (.d .an)
inductive VwC:List AV->List AV->Prop
 |nil:VwC [] []
 |cons{u v:AV}{a b:List AV}(h:Vw u v)(hs:v.sc=true)(t:VwC a b):VwC (u::a) (v::b)
inductive VwO:Ob->Ob->Prop
 |same(o:Ob):VwO o o
 |cells(size:Nat)(c c':List AV)(h:VwC c c'):VwO (.cells size c) (.cells size c')
theorem VwC.len{a b:List AV}(h:VwC a b):a.length=b.length:=by
 induction h with
 |nil=>rfl
 |cons _ _ _ ih=>simp[ih]
theorem VwC.at{a b:List AV}(h:VwC a b):∀(j:Nat) (h1:j<a.length) (h2:j<b.length),Vw a[j] b[j]/\b[j].sc=true:=by
 induction h with
 |nil=>intro j h1;cases h1
 |cons h hs _ ih=>
  intro j h1 h2;cases j with
  |zero=>exact⟨h,hs⟩
  |succ j=>exact ih j (by simpa using h1) (by simpa using h2)
theorem Vw.avr{x:Value}(h:Vw u v)(hx:AVR g u x):AVR g v x:=by
 cases h with
 |same=>exact hx
 |ts k l m'=>
  cases hx with
  |ts0 _ _ _ _ _ _ hd=>exact .d _ _ hd
  |ts _ _ _ _ _ _ _ _ hd=>exact .d _ _ hd
 |tg k l=>cases hx with|tg _ _ _ _ _ hd=>exact .d _ _ hd
 |nl k=>cases hx;exact .d _ _ (.fs0 _ _ _)
 |an _ h=>exact .d _ _ (.an _ (hx.one h))
def QT7{α:Type}(R:α->α->Prop)(l:List (Nat×α))(k:Nat)(v:α):Prop:=
 match look k l with
 |some u=>R u v
 |none=>False
def VwL{α:Type}(R:α->α->Prop)(l:List (Nat×α)):List (Nat×α)->Prop
 |[]=>True
 |(k,v)::t=>QT7 R l k v/\VwL R l t
theorem VwL.look{α:Type}{R:α->α->Prop}{l m:List (Nat×α)}(h:VwL R l m){v:α}(hk:look k m=some v):∃u,look k l=some u/\R u v:=by
 have hm:=Qb hk;clear hk;induction m with
 |nil=>cases hm
 |cons p t ih=>
  obtain⟨k',v'⟩:=p;rcases zi.1 hm with h'|h'
  ·cases h';have:=h.1;unfold QT7 at this;cases hu:Sy.look k l with
   |none=>rw[hu]at this;exact this.elim
   |some u=>rw[hu]at this;exact⟨u,rfl,this⟩
  ·exact ih h.2 h'
theorem Vw.ts'{l:List (List D)}(h:l=l'):Vw (.ts k l m) (.d (.fs k l')):=by subst h;exact .ts k l m
theorem Vw.nl'(h:[]=l'):Vw (.nl k) (.d (.fs k l')):=by subst h;exact .nl k
theorem Vw.eq(h:u=v):Vw u v:=by subst h;exact .same u
theorem Wk.vwL{N:Nat}(hs:VwL Vw σ.sl τ.sl)(hm:VwL VwO σ.mem τ.mem)(hok:τ.ok=true):Wk N σ τ:=by
 refine⟨λκ g a w hst=>?_⟩;have on:∀k,On g τ.mem k->On g σ.mem k:=λk h=>by
  unfold On at h⊢;cases hl:look k τ.mem with
  |none=>rw[hl]at h;exact h.elim
  |some ob=>
   rw[hl]at h;obtain⟨ob',h2,h3⟩:=hm.look hl;rw[h2];cases h3 with
   |same=>exact h
   |cells=>trivial
 refine⟨g,hst.size,hst.defers,λk v hk=>?_,⟨hst.inv.frz,λk ob hk=>?_,λk m hkm h h'=>hst.inv.inj k m hkm (on k h) (on m h'),hst.inv.size,hst.inv.pres,λk h=>hst.inv.own k (on k h),hst.inv.f0,hst.inv.fnew,hst.inv.os,hst.inv.tape,hst.inv.output,hst.inv.dfr⟩,hok⟩
 ·obtain ⟨u,hu,hz⟩:=hs.look hk;exact hz.avr (hst.sl k u hu)
 ·obtain ⟨ob',hob',hz⟩:=hm.look hk;have hob:=hst.inv.obs k ob' hob';cases hz with
  |same=>exact hob
  |cells size c c' h=>
   obtain⟨arr,T,e1,e2,e3,e4,e5,e6⟩:=hob;have hl:=h.len;exact⟨arr,T,e1,e2,by omega,λj hj=>(h.at j (by omega) hj).2,λj hj=>(h.at j (by omega) hj).1.avr (e5 j (by omega)),e6⟩
section
variable {N:Nat}
theorem Wk.frzL(n t sz:Nat)(es:List (List D))(fl:Bool)(hm:look n σ.mem=some (.vec t sz es fl))(hs:FzL sz n es σ.sl τ.sl)(hmem:FzM sz n es σ.mem τ.mem)(hok:τ.ok=true):Wk N σ τ:=
 Wk.frz hm (λk v hk=>hs.look hk) (λk ob hk=>hmem.look hk) hok
end
def gh1(F:Nat->Nat->Option Value)(b h c:Nat)(k:Bool):Gh:=⟨F,λ_=>b,λ_=>h,λ_=>c,λ_=>k⟩
def AV.m1(k:Bool):AV->Bool
 | .ptr n _=> !k&&Nat.beq n 0
 | .vx _ n _ _=>k&&Nat.beq n 0
 | .vq _ n _ _=>k&&Nat.beq n 0
 | .ms _ n _ _ _=> !k&&Nat.beq n 0
 | .d _| .dg .. =>true
 | .tup vs=>vs.all fun| .d _| .dg .. =>true|_=>false
 |_=>false
def AV.to(n:Nat):AV->AV
 | .ptr _ off=> .ptr n off
 | .vx sz _ i len=> .vx sz n i len
 | .vq sz _ k off=> .vq sz n k off
 | .ms sz _ off len cap=> .ms sz n off len cap
 |v=>v
def Ob.m1(k:Bool):Ob->Bool
 | .cells _ c=> !k&&(allD c).isSome
 | .vec _ _ es _=>k&&Nat.blt 0 es.length
 |_=>false
theorem AVR.to(hF:∀b o v,g.F b o=some v->g'.F b o=some v)(h1:g'.blk m=g.blk n)(h2:kd=true->g'.hi m=g.hi n)(h3:kd=true->g'.cp m=g.cp n)(h4:kd=true->g'.has m=g.has n){x:Value}(hv:v.m1 kd=true)(h:AVR g (v.to n) x):AVR g' (v.to m) x:=by
 cases v with
 |ptr k off=>cases h;rw[<-h1];exact .ptr m off
 |vx sz k i len=>
  simp only[AV.m1,zf]at hv;cases h with|vx _ _ _ _ ad c hc had=>exact .vx sz m i len ad c hc (by unfold QH6 at*;rw[h1,h2 hv.1,h3 hv.1,h4 hv.1];exact had)
 |vq sz k j off=>
  simp only[AV.m1,zf]at hv;cases h with|vq _ _ _ _ hh=>rw[<-h1,<-h2 hv.1];exact .vq sz m j off ((h4 hv.1).trans hh)
 |ms sz k off len cap=>cases h with|ms _ _ _ _ _ ad had hc=>exact .ms sz m off len cap ad (by rw[h1];exact had) hc
 |d y=>exact Zw hF rfl h
 |dg k cs=>exact Zw hF rfl h
 |tup vs=>exact Zw hF hv h
 |_=>cases hv
variable {ob o0 o1:Ob}
theorem Zv.to{κ':Ctx}(hF:∀b o,g'.F b o=g.F b o)(h1:g'.blk m=g.blk n)(h2:kd=true->g'.hi m=g.hi n)(h3:kd=true->g'.cp m=g.cp n)(h4:kd=true->g'.has m=g.has n)(hv:ob.m1 kd=true)(h:Zv κ g w n ob):Zv κ' g' w m ob:=by
 cases ob with
 |cells size c=>
  obtain⟨arr,T,e1,e2,e3,e4,e5,e6⟩:=h;simp only[Ob.m1,zf,jy]at hv;obtain⟨_,ds,hv⟩:=hv;obtain rfl:=QAj hv;refine⟨arr,T,by rw[h1];exact e1,e2,e3,e4,λj hj=>?_,λo=>by rw[hF,h1];exact e6 o⟩;have:=e5 j hj;simp only[z1]at this⊢;exact Zw (λb o v h=>by rw[hF];exact h) rfl this
 |vec t sz es f=>
  obtain⟨v1,v2,v3⟩:=h;simp only[Ob.m1,zf]at hv;have h4:=h4 hv.1;have h2:=h2 hv.1;have h3:=h3 hv.1;refine⟨v1,λh=>v2 (h4.symm.trans h),λh=>?_⟩;obtain⟨arr,e1,e2,e3,e4,e5,e6,e7⟩:=v3 (h4.symm.trans h);exact⟨arr,by rw[h1];exact e1,by rw[h2,h3];exact e2,by rw[h3];exact e3,λi hi j hj=>by rw[h2];exact(e4 i hi j hj).mono λb o v h=>by rw[hF];exact h,λo=>by rw[hF,h1];exact e5 o,λhf=>by rw[h3];exact e6 hf,λj hj=>by rw[h2];rw[h3]at hj;exact e7 j hj⟩
 |_=>cases hv
structure FnM(P:Program)(f:Nat)(k:Bool)(args:List AV)(o0 o1:Ob)(r:AV):Prop where
 ma:args.all (AV.m1 k)=true
 m0:o0.m1 k=true
 mo:o1.m1 k=true
 mr:r.m1 k=true
 run:∀(F:Nat->Nat->Option Value) (b h c:Nat) (w:World) (vs:Array Value),(∀b o v,F b o=some v->w.cell? ⟨b,o,none⟩=some v)->GOK F->Zv (kz w) (gh1 F b h c k) w 0 o0->vs.size=args.length->
  (∀j (hj:j<args.length),AVR (gh1 F b h c k) (args[j].to 0) (vs.getD j undef))->
  QQD P f vs w λe w'=>∃v F',e= .returned v/\AVR (gh1 F' b h c k) (r.to 0) v/\(∀b o v,F b o=some v->F' b o=some v)/\
   (∀b o v,F' b o=some v->F b o=some v\/w.heap.size<=b)/\(∀b o v,F' b o=some v->w'.cell? ⟨b,o,none⟩=some v)/\Zv (kz w) (gh1 F' b h c k) w' 0 o1/\(∀arr T z,w.heap[b]? =some (.cells arr T z)->∃arr' z',w'.heap[b]? =some (.cells arr' T z'))/\
   w.heap.size<=w'.heap.size/\(∀b',b'<w.heap.size->b'≠b->w'.heap[b']? =w.heap[b']?)/\w'.os=w.os/\w'.tape=w.tape/\w'.output=w.output
theorem Inv.growM{w':World}(hi:Inv κ g mem w)(hmem:∀n ob,look n mem=some ob->n<nx/\ob.lt nx=true)(hn:look n mem=some o0)(hon:On g mem n)(hF:∀b o v,g.F b o=some v->F' b o=some v)
  (hsz:w.heap.size<=w'.heap.size) (hb:∀b,b<w.heap.size->b≠g.blk n->w'.heap[b]? =w.heap[b]?) (hnew:∀b o v,F' b o=some v->g.F b o=some v\/w.heap.size<=b)
  (hfrz:∀b o v,F' b o=some v->w'.cell? ⟨b,o,none⟩=some v) (ho:Zv κ {g with F:=F'} w' n o1) (hT:∀arr T z,w.heap[g.blk n]? =some (.cells arr T z)->∃arr' z',w'.heap[g.blk n]? =some (.cells arr' T z'))
  (hd:∃arr T z,w.heap[g.blk n]? =some (.cells arr T z)) (h1:w'.os=w.os) (h2:w'.tape=w.tape) (h3:w'.output=w.output):Inv κ {g with F:=F'} ((n,o1)::mem) w':=by
 have lt_of:∀ {b:Nat} {x:Obj},w.heap[b]? =some x->b<w.heap.size:=λh=>by
  rcases yj _ w.heap.size with h'|h'
  ·exact h'
  ·rw [xh h']at h;cases h
 have he:Ext nx g {g with F:=F'}:=⟨hF,λ_ _=>rfl,λ_ _=>rfl,λ_ _=>rfl,λ_ _=>rfl⟩;have XC:∀b o,b<w.heap.size->g.F b o=none->F' b o=none:=λb o hb hn=>by
  cases hq:F' b o with
  |none=>rfl
  |some v=>
   rcases hnew _ _ _ hq with h|h
   ·rw [hn]at h;cases h
   ·omega
 have on:∀m,On {g with F:=F'} ((n,o1)::mem) m->On g mem m:=λm h=>by
  by_cases hm:m=n
  ·subst hm;exact hon
  ·unfold On at h⊢;rw[QC,if_neg hm]at h;exact h
 obtain⟨arrn,Tn,zn,hdn⟩:=hd;refine⟨hfrz,λm ob hm=>?_,λm k hmk h h'=>hi.inj m k hmk (on m h) (on k h'),xy hi.size hsz,λb hb' hm=>?_,λm h=>hi.own m (on m h),λb o v h=>hF _ _ _ (hi.f0 _ _ _ h),λb o v h=>?_,h1.trans hi.os,h2.trans hi.tape,h3.trans hi.output,λD hD=>?_⟩
 ·rw [QC]at hm;by_cases hmn:m=n
  ·subst hmn;rw[if_pos rfl]at hm;obtain rfl:=za hm;exact ho
  ·rw [if_neg hmn]at hm;obtain⟨hm',hl⟩:=hmem m ob hm;have:=hi.obs m ob hm;have ne:On g mem m->g.blk m≠g.blk n:=λh=>hi.inj m n hmn h hon;cases ob with
   |cells size c=>
    obtain⟨arr,T,e1,e2,e3,e4,e5,e6⟩:=this;have hlt:=lt_of e1;refine⟨arr,T,?_,e2,e3,e4,λj hj=>(e5 j hj).ext1 he ?_,λo=>XC _ _ hlt (e6 o)⟩
    ·rw [hb _ hlt (ne (by unfold On;rw[hm];trivial))];exact e1
    ·simp only[Ob.lt,ze]at hl;exact hl _ (zm hj)
   |tag k t=>
    obtain⟨arr,fz,e⟩:=this;by_cases hkb:g.blk k=g.blk n
    ·rw [hkb]at e;obtain⟨a',z',e'⟩:=hT _ _ _ e;exact⟨a',z',by rw[hkb];exact e'⟩
    ·exact ⟨arr,fz,by rw[hb _ (lt_of e) hkb];exact e⟩
   |vec t sz es f'=>exact ZM.mono this hF rfl rfl rfl rfl (λhh=>by obtain⟨arr,e1,_⟩:=this.2.2 hh;exact hb _ (lt_of e1) (ne (by unfold On;rw[hm];exact hh))) (λhh o ho=>by obtain⟨arr,e1,_⟩:=this.2.2 hh;exact XC _ _ (lt_of e1) ho)
   |tail=>
    refine⟨λhh=>?_,this.2⟩;obtain⟨arr,T,e1,e2,e3,e4⟩:=this.1 hh;have hlt:=lt_of e1;exact⟨arr,T,by rw[hb _ hlt (ne (by unfold On;rw[hm];exact hh))];exact e1,e2,e3,λo ho=>XC _ _ hlt (e4 o ho)⟩
   |frame sz l=>
    simp only[Ob.lt,ze]at hl;exact⟨this.1,λs v hs=>(this.2 s v hs).ext he (hl _ (Qb hs))⟩
   |loop k ps asg body st pd=>
    obtain⟨eb,fn,D,e⟩:=this;exact⟨eb,fn,D,by rw[hb _ (lt_of e) (ne (by unfold On;rw[hm];trivial))];exact e⟩
   |mp b ag tp l=>exact ZQ.mono this hF rfl rfl rfl rfl (λhh=>by obtain⟨arr,e1,_⟩:=this.2.2 hh;exact hb _ (lt_of e1) (ne (by unfold On;rw[hm];exact hh))) (λhh o ho=>by obtain⟨arr,e1,_⟩:=this.2.2 hh;exact XC _ _ (lt_of e1) ho)
 ·have hne:b≠g.blk n:=by
   rintro rfl;rcases hi.own n hon with h|h
   ·omega
   ·exact hm h
  rw[hb b (by have:=hi.size;omega) hne];exact hi.pres b hb' hm
 ·rcases hnew _ _ _ h with h|h
  ·exact hi.fnew _ _ _ h
  ·have:=hi.size;exact .inr (.inl (by omega))
 ·have e:=hi.dfr D hD;rw[hb D (lt_of e) (λh=>by rw[h,hdn]at e;cases e)];exact e
section
variable {P:Program} {ti:Nat->Option Ty} {N:Nat}
theorem QT8(hv:v.m1 kd=true)(hn:n<M):(v.to n).lt M=true:=by
 cases v with
 |ptr k off=>simp[AV.to,AV.lt,AV.lt2,AV.lt1,AV.lt0,hn]
 |vx sz k i len=>simp[AV.to,AV.lt,AV.lt2,AV.lt1,AV.lt0,hn]
 |vq sz k j off=>simp[AV.to,AV.lt,AV.lt2,AV.lt1,AV.lt0,hn]
 |ms sz k off len cap=>simp[AV.to,AV.lt,AV.lt2,AV.lt1,AV.lt0,hn]
 |d y=>rfl
 |dg k cs=>rfl
 |tup vs=>exact QAN (v:= .tup vs) hv M
 |_=>cases hv
theorem QT9(h:ob.m1 kd=true):ob.lt M=true:=by
 cases ob with
 |cells size c=>
  simp only[Ob.m1,zf,jy]at h;obtain⟨_,ds,h⟩:=h;obtain rfl:=QAj h;simp only[Ob.lt,ze];intro x hx;obtain⟨y,_,rfl⟩:=yf.1 hx;rfl
 |vec t sz es f=>rfl
 |_=>cases h
theorem CallI.byM{k:Bool}{args:List AV}{r:AV}(hC:FnM P f k args o0 o1 r)(hm:look n σ.mem=some o0)(hl:l=args.map (AV.to n))(h:K (S.put ⟨σ.sl,(n,o1)::σ.mem,σ.nx⟩ o.dst (r.to n))):CallI P N o σ f l K:=by
 subst hl;refine⟨fun⟨⟨x,xs,ats,first,cap,l',hop,hx,hl,hll⟩,hd⟩ κ g a w hst next Q hn=>?_⟩;obtain⟨vs,ws,hev,hsz,hav⟩:=Yr hst hx hl;rw[<-hll]at hsz;have hnx:=(S.ok_mem hst.ok hm).1;have hob:=hst.inv.obs n _ hm;have hon:On g σ.mem n/\(k=true->g.has n=true)/\∃arr T z,w.heap[g.blk n]? =some (.cells arr T z):=by
  have h0:=hC.m0;cases o0 with
  |cells s c=>
   obtain⟨arr,T,e1,_⟩:=hob;exact⟨by unfold On;rw[hm];trivial,λhk=>by subst hk;simp[Ob.m1]at h0,arr,T,_,e1⟩
  |vec t sz es fl=>
   have hh:g.has n=true:=by
    cases hq:g.has n with
    |true=>rfl
    |false=>have:=hob.2.1 hq;subst this;simp[Ob.m1]at h0
   obtain⟨arr,e1,_⟩:=hob.2.2 hh;exact⟨by unfold On;rw[hm];exact hh,λ_=>hh,arr,t,_,e1⟩
  |_=>cases h0
 obtain⟨hon,hhas,hdn⟩:=hon;have hexec:(execOp a.eval o).run P w=(callFunc f (vs++xs.map a.eval++ws)).run P w:=by
  simp only[execOp,hop,resolve,hev,Deferred.ofValue,pure_bind,invoke]
 have fin:∀e w',(∃v F',e=Ending.returned v/\AVR (gh1 F' (g.blk n) (g.hi n) (g.cp n) k) (r.to 0) v/\(∀b o v,g.F b o=some v->F' b o=some v)/\
   (∀b o v,F' b o=some v->g.F b o=some v\/w.heap.size<=b)/\(∀b o v,F' b o=some v->w'.cell? ⟨b,o,none⟩=some v)/\Zv (kz w) (gh1 F' (g.blk n) (g.hi n) (g.cp n) k) w' 0 o1/\(∀arr T z,w.heap[g.blk n]? =some (.cells arr T z)->∃arr' z',w'.heap[g.blk n]? =some (.cells arr' T z'))/\
   w.heap.size<=w'.heap.size/\(∀b',b'<w.heap.size->b'≠g.blk n->w'.heap[b']? =w.heap[b']?)/\w'.os=w.os/\w'.tape=w.tape/\w'.output=w.output)->∃v',e= .returned v'/\next (a.put o.dst v') w':=by
  rintro e w' ⟨v',F',rfl,q1,q2,q3,q4,q5,qT,q6,q7,q8,q9,q10⟩;have hi':Inv κ {g with F:=F'} ((n,o1)::σ.mem) w':=hst.inv.growM (λk ob h=>S.ok_mem hst.ok h) hm hon q2 q6 q7 q3 q4 (q5.to (n:=0) (g:=gh1 F' (g.blk n) (g.hi n) (g.cp n) k) (λ_ _=>rfl) rfl (λ_=>rfl) (λ_=>rfl) (λhk=>(hhas hk).trans hk.symm) hC.mo) qT hdn q8 q9 q10;have hv:AVR {g with F:=F'} (r.to n) v':=q1.to (n:=0) (m:=n) (kd:=k) (g:=gh1 F' (g.blk n) (g.hi n) (g.cp n) k) (g':= {g with F:=F'}) (λ_ _ _ h=>h) rfl (λ_=>rfl) (λ_=>rfl) (λhk=>(hhas hk).trans hk.symm) hC.mr;have hE:Ext σ.nx g {g with F:=F'}:=⟨q2,λ_ _=>rfl,λ_ _=>rfl,λ_ _=>rfl,λ_ _=>rfl⟩;have hmemA:∀p∈(n,o1)::σ.mem,p.1<σ.nx/\p.2.lt σ.nx=true:=λp hp=>by
   rcases zi.1 hp with rfl|hp
   ·exact ⟨hnx,QT9 hC.mo⟩
   ·exact S.ok_memAll hst.ok p hp
  have hst1:St κ N {g with F:=F'} ⟨σ.sl,(n,o1)::σ.mem,σ.nx⟩ a w':=by
   refine⟨hst.size,hst.defers,λk x hk=>(hst.sl k x hk).ext hE (S.ok_sl hst.ok hk),hi',?_⟩;rw[S.ok_iff];exact⟨(S.ok_iff.1 hst.ok).1,hmemA⟩
  refine⟨v',rfl,hn {g with F:=F'} _ _ _ h ?_⟩;cases hdst:o.dst with
  |none=>exact hst1
  |some d=>exact hst1.put (hd d hdst) (.refl _ _) hi' hv (S.ok_cons hst1.ok (zt _) (QT8 hC.mr hnx) hmemA)
 rcases hC.run g.F (g.blk n) (g.hi n) (g.cp n) w (vs++xs.map a.eval++ws) hst.inv.frz (κ.gl.mono hst.inv.f0) (Zv.to (kd:=k) (g:=g) (n:=n) (m:=0) (g':=gh1 g.F (g.blk n) (g.hi n) (g.cp n) k) (λ_ _=>rfl) rfl (λ_=>rfl) (λ_=>rfl) (λhk=>hk.trans (hhas hk).symm) hC.m0 hob) (by simpa using hsz) (λj hj=>by
  have h1:=hav j (by rw[<-hll];simpa using hj);have e:(first++l'++cap)[j]'(by rw[<-hll];simpa using hj)=args[j].to n:=by simp only[<-hll];simp
  rw[e]at h1;exact h1.to (n:=n) (m:=0) (kd:=k) (g:=g) (g':=gh1 g.F (g.blk n) (g.hi n) (g.cp n) k) (λ_ _ _ h=>h) rfl (λ_=>rfl) (λ_=>rfl) (λhk=>hk.trans (hhas hk).symm) (ze.1 hC.ma _ (zm hj)))with⟨hrun,hc⟩|⟨v',w',hrun,hc⟩
 ·exact YL (hexec.trans hrun) (hc.mono λe w' he=>fin e w' he)
 ·obtain ⟨v'',he,hn'⟩:=fin _ _ hc;cases he;exact Qc (hexec.trans hrun) hn'
inductive Kp(args:List AV)(o0:Ob):Bool->AV->Prop
 |cells:Kp args o0 false (.ptr 0 0)
 |vec(t sz len:Nat)(es:List (List D))(fl:Bool)(rest:List AV)(ha:args= .vx sz 0 0 len::rest)(ho:o0= .vec t sz es fl)(h0:0<sz):Kp args o0 true (.vx sz 0 0 len)
theorem QOd(hti:QU P ti)(h:St κ N g σ a w)(hl:Yb ti fn.results.toList σ=some l):∃u,AVR g (Yi l) u/\(results fn a.tmps).run P w= .ok u w:=by
 obtain⟨vs,h1,h2,h3⟩:=QB7 hti h hl;have hu:AVR g (Yi l) (if hs:vs.toArray.size=1 then vs.toArray[0]else .tuple vs.toArray):=by
  match l,vs,h1,h2 with
  |[x],[y],_,h2=>simpa [Yi]using h2 0 (by simp) (by simp)
  |[],[],_,_=>exact .tup _ _ rfl λj hj=>by cases hj
  |x::x'::l,y::y'::vs,h1,h2=>
   simp only[Yi];rw[dif_neg (by simp)];refine .tup _ _ (by simpa using h1) λj hj=>?_;have hj':j<(y::y'::vs).length:=by rw[h1];exact hj
   have:=h2 j hj hj';have e:(y::y'::vs).toArray.getD j undef=(y::y'::vs)[j]:=by
    rw[Array.getD,dif_pos (by simpa using hj')];simp[Array.getInternal]
   rw[e];exact this
 refine⟨_,hu,?_⟩;rw[QBW,jt];simp only[zp,Vn,h3,zg,zq]
end
open Go.Sort
section
variable {P:Program} {α:Type} [Inhabited α]
theorem QEk(enc:α->Value)(w:World)(n b off:Nat)(d:Array α)(os:Array Obj)(k:Nat)(hk:k<w.heap.size):
  (grow (putRow enc (Go.Sort.ahead w n) b off d) os).heap[k]? =if b=k then(w.heap[k]?).map (onCells (putCells enc off d))else w.heap[k]? :=by
 have e:(grow (putRow enc (Go.Sort.ahead w n) b off d) os).heap=w.heap.modify b (onCells (putCells enc off d))++os:=rfl;rw[e,vd (by simpa using hk),qi]
theorem FnM.ofRow(enc:α->Value)(Qg:α->D)(henc:∀(F:Nat->Nat->Option Value) x,DR F (Qg x) (enc x))(hinv:∀(F:Nat->Nat->Option Value) x v,DR F (Qg x) v->v=enc x){zs zs':List α}{m:Option Nat}(hl:zs'.length=zs.length)(h0:0<zs.length)(hm:∀q,m=some q->q<=zs.length)
  (hcall:∀(vs:Array Value) (w:World),(callFunc f vs).run P w= .ok (.enter f vs) w)
  (hC:∀(blk off cap:Nat) (w:World),Holds enc w blk off zs.toArray->blk<w.heap.size->zs.length<=cap->Calls P f #[.slice (some ⟨blk,off,none⟩) zs.length cap] w λe w'=>
   e= .returned (match m with|none=> .tuple #[]|some q=> .slice (some ⟨blk,off,none⟩) q cap)/\∃n os,w'=grow (putRow enc (Go.Sort.ahead w n) blk off zs'.toArray) os):
  FnM P f true [.vx 1 0 0 zs.length] (.vec t 1 (zs.map λz=>[Qg z]) fl) (.vec t 1 (zs'.map λz=>[Qg z]) fl) (match m with|none=> .tup []|some q=> .vx 1 0 0 q):=by
 refine⟨rfl,by simp[Ob.m1];exact h0,by simp[Ob.m1,hl];exact h0,by cases m<;>rfl,λF b h c w vs hfz _ hob hsz hav=> .inl ⟨hcall vs w,?_⟩⟩;obtain⟨v1,v2,v3⟩:=hob;obtain⟨arr,e1,e2,e3,e4,e5,e6,e7⟩:=v3 rfl;have e1:w.heap[b]? =some (.cells arr t (0,0)):=e1;have e2:h+c<=arr.size:=e2;have e3:(zs.map λz=>[Qg z]).length*1<=c:=e3;have e3:zs.length<=c:=by simpa using e3
 have e5:∀o,F b o=none:=e5;have hbl:b<w.heap.size:=by
  rcases yj b w.heap.size with h'|h'
  ·exact h'
  ·rw [xh h']at e1;cases e1
 have hcell:∀j (hj:j<zs.length),arr.getD (h+j) undef=enc zs[j]:=λj hj=>by
  have:=e4 j (by simpa using hj) 0 (by simp);simp only[z1,W1,qp,x6]at this;exact hinv _ _ _ this
 obtain⟨u,hvs⟩:∃u,vs= #[u]:=by
  obtain⟨l⟩:=vs
  match l,hsz with
  |[u],_=>exact⟨u,rfl⟩
 subst hvs;have hu:AVR (gh1 F b h c true) (.vx 1 0 0 zs.length) u:=hav 0 (by simp);cases hu with|vx _ _ _ _ ad cc hc had=>?_
 obtain⟨_,rfl,hcp⟩:=had.pos (by omega);have hcp:(0+cc)*1=c:=hcp;have hH:Holds enc w b h zs.toArray:=λj hj=>by
  have hj':j<zs.length:=by simpa using hj
  refine⟨?_,by simp[World.frozen?,e1]⟩;have hlt:h+j<arr.size:=by omega
  have:=hcell j hj';rw[Array.getD,dif_pos hlt]at this;have hz:zs.toArray[j]! =zs[j]:=by simp[hj']
  rw[hz,<-this];simp[World.cell?,e1,hlt]
 have ead:(⟨(gh1 F b h c true).blk 0,(gh1 F b h c true).hi 0+0*1,none⟩:Addr)=⟨b,h,none⟩:=by simp[gh1]
 rw[ead];refine(hC b h cc w hH hbl (by omega)).mono ?_;rintro e w' ⟨rfl,n,os,rfl⟩;have hb1:(grow (putRow enc (Go.Sort.ahead w n) b h zs'.toArray) os).heap[b]? =some (.cells (putCells enc h zs'.toArray arr) t (0,0)):=by
  rw[QEk _ _ _ _ _ _ _ _ hbl,if_pos rfl,e1];rfl
 have hpz:(putCells enc h zs'.toArray arr).size=arr.size:=by simp[putCells]
 have hpc:∀q,q<arr.size->(putCells enc h zs'.toArray arr).getD q undef=if h<=q/\q<h+zs'.length then enc (zs'.toArray[q-h]!)else arr.getD q undef:=λq hq=>by
  rw[Array.getD,dif_pos (by rw[hpz];exact hq)];simp[putCells,Array.getD,hq]
 have hvec:ZM (gh1 F b h c true) (grow (putRow enc (Go.Sort.ahead w n) b h zs'.toArray) os) 0 t 1 (zs'.map λz=>[Qg z]) fl:=by
  have hh1:(gh1 F b h c true).has 0=false->(zs'.map λz=>[Qg z])=[]:=λh=>by cases h
  refine⟨λx hx=>?_,hh1,λ_=>⟨_,hb1,?_,?_,λi hi j hj=>?_,e5,λhf=>?_,λj hj=>?_⟩⟩
  ·obtain ⟨z,_,rfl⟩:=yf.1 hx;rfl
  ·rw [hpz];exact e2
  ·show (zs'.map λz=>[Qg z]).length*1<=c;simpa [hl]using e3
  ·simp only[z1,xc]at hj⊢;obtain rfl:j=0:=by omega
   have hi':i<zs'.length:=by simpa using hi
   show DR F (Qg zs'[i]) ((putCells enc h zs'.toArray arr).getD (h+i*1+0) undef);rw[hpc _ (by omega),if_pos (by omega)];have:zs'.toArray[h+i*1+0-h]! =zs'[i]:=by
    have e:h+i*1+0-h=i:=by omega
    rw[e];simp[hi']
   rw[this];exact henc _ _
  ·have:=e6 hf;show(zs'.map λz=>[Qg z]).length*1=c;have h2:(zs.map λz=>[Qg z]).length*1=c:=this;simpa [hl]using h2
  ·show ((putCells enc h zs'.toArray arr).getD (h+j) undef).oneCell'=true;have hj:j<c:=hj;rw[hpc _ (by omega)];split
   ·exact (henc F _).one
   ·exact e7 j hj
 refine⟨_,F,rfl,?_,λ_ _ _ h=>h,λ_ _ _ h=> .inl h,λb' o v hv=>?_,hvec,λarr' T z hw=>?_,?_,λb' hb' hne=>?_,rfl,rfl,rfl⟩
 ·cases m with
  |none=>exact .tup [] #[] rfl λj hj=>by cases hj
  |some q=>
   have hq:=hm q rfl;rw[<-ead];exact .vx 1 0 0 q _ cc (by omega) had
 ·have hne:b'≠b:=by
   rintro rfl;rw[e5]at hv;cases hv
  have h1:=hfz b' o v hv;have hlt:b'<w.heap.size:=by
   rcases yj b' w.heap.size with h'|h'
   ·exact h'
   ·simp [World.cell?,xh h']at h1
  have h2:=QEk enc w n b h zs'.toArray os b' hlt;rw[if_neg (vb hne)]at h2;simpa [World.cell?,h2]using h1
 ·rw [e1]at hw;cases hw;exact⟨_,_,hb1⟩
 ·simp [Go.Sort.ahead]
 ·rw [QEk _ _ _ _ _ _ _ _ hb',if_neg (vb hne)]
end
end Go.Sy
namespace Go.Sy
variable {ops:List Oper}
variable {σ:S}
variable {K:S->Prop}
section
variable {P:Program} {ti:Nat->Option Ty} {N:Nat}
theorem QX.join{id:Nat}(τ:S)(h:QX P ti N id ops σ λσ'=>Wk N σ' τ)(hk:K τ):QX P ti N id ops σ K:=by
 refine⟨λκ g a w hr hst=>wpIn_mono (h.run κ g a w hr hst) λe a' w' ⟨l,g',σ',hl,hq,hst'⟩=>?_⟩;cases e with
 |normal=>
  obtain⟨g2,h2⟩:=Wk.run hq _ _ _ _ hst';exact⟨l,g2,τ,hl,hk,h2⟩
 |_=>exact False.elim hq
end
theorem letC_id{e:List AV}{K:List AV->Prop}(h:Zy e K):Zy e K:=h
theorem QAa{α:Type}{p:α->Prop}(h:∃x,p x):∃x,p x:=h
section
variable {P:Program} {ti:Nat->Option Ty} {N:Nat}
theorem Qx{id:Nat}(h:QX P ti N id ops σ K):QX P ti N id ops σ K:=h
end
end Go.Sy
