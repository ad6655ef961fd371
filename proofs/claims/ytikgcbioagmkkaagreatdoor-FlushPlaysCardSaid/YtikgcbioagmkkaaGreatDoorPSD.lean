/- A computing verification layer for data, proved sound over the library: what a body comes to, by its literal code. Conditions: none. -/
import Derived.Test.YtikgcbioagmkkaaGreatDoorPSC
import Derived.MapKept
import Derived.ChangeMaps3
import Derived.Test.YtikgcbioagmkkaaGreatDoorPSA
set_option maxRecDepth 100000
set_option linter.all false
namespace Go.Sy
variable {mem pre post post':List (Nat×Ob)}
variable {nx nx' m s off n d t f k sz i M j size ck ke ee:Nat}
variable {sl:List (Nat×AV)}
variable {ty ety:Ty}
variable {κ κ':Ctx}
variable {g:Gh}
variable {a:Act}
variable {w w':World}
variable {Q:Exit->Act->World->Prop}
variable {ops:List Oper}
variable {arr:Array Value}
variable {fl b ag:Bool}
variable {fn:Func}
variable {c l l':List AV}
variable {τ:S}
section
variable {P:Program} {ti:Nat->Option Ty} {N:Nat}
theorem Y6{α:Type}(n:Nat):∀(l m:List (Nat×α)),look n (l++m)=match look n l with|some x=>some x|none=>look n m
 |[],m=>rfl
 |(a,b)::t,m=>by
  show look n ((a,b)::(t++m))=_;rw[QC,QC];by_cases h:n=a
  ·rw [if_pos h,if_pos h]
  ·rw [if_neg h,if_neg h];exact Y6 n t m
structure QOe(nx nx':Nat)(ext:List (Nat×Ob)):Prop where
 at_:∀n ob,look n ext=some ob->nx<=n/\n<nx'/\ob.lt nx'=true/\(match ob with| .cells .. =>True| .tag m _=>nx<=m/\∃s c,look m ext=some (.cells s c)|_=>False)
theorem ZH.frame{ext:List (Nat×Ob)}{r:Operand->Option AV}{o:Oper}{av:AV}(h:ZH P mem nx r o av)(hn':nx<=nx')(hm:∀n ob,look n mem=some ob->n<nx/\ob.lt nx=true)(he:QOe nx nx' ext):ZH P (ext++mem) nx' r o av:=by
 refine⟨AV.lt_mono h.1 hn',λκ g a w hi hops next Q hn=>?_⟩
 classical
 let md:List Nat:=((mem.map Prod.fst).filter λn=>decide (On g mem n)).map g.blk
 let κ':Ctx:= {κ with w0:=w,F0:=g.F,mod:=md,gl:=κ.gl.mono hi.f0}
 have inMem:∀n ob,look n mem=some ob->look n (ext++mem)=some ob:=λn ob hl=>by
  rw[Y6];cases hx:look n ext with
  |none=>exact hl
  |some x=>have:=(he.at_ n x hx).1;have:=(hm n ob hl).1;omega
 have onUp:∀n,On g mem n->On g (ext++mem) n:=λn h=>by
  unfold On at h⊢;cases hl:look n mem with
  |none=>rw[hl]at h;exact h.elim
  |some ob=>rw[inMem n ob hl];rw[hl]at h;exact h
 have mdIn:∀b,b∈md->∃n,On g mem n/\g.blk n=b:=λb hb=>by
  obtain⟨n,h1,h2⟩:=yf.1 hb;exact⟨n,by simpa using(uc.1 h1).2,h2⟩
 have mdOf:∀n,On g mem n->g.blk n∈md:=λn h=>by
  refine yf.2 ⟨n,uc.2 ⟨?_,by simpa using h⟩,rfl⟩;unfold On at h;cases hl:look n mem with
  |none=>rw[hl]at h;exact h.elim
  |some ob=>exact yf.2 ⟨_,Qb hl,rfl⟩
 have mdOwn:∀b,b∈md->κ.w0.heap.size<=b\/b∈κ.mod:=λb hb=>by
  obtain⟨n,h1,rfl⟩:=mdIn b hb;exact hi.own n (onUp n h1)
 have hi':Inv κ' g mem w:=⟨hi.frz,λn ob hl=>by
   have:=hi.obs n ob (inMem n ob hl);cases ob<;>exact this,
  λn m hnm h h'=>hi.inj n m hnm (onUp n h) (onUp m h'),zt _,λ_ _ _=>rfl,λn h=> .inr (mdOf n h),λ_ _ _ h=>h,λ_ _ _ h=> .inl h,rfl,rfl,rfl,hi.dfr⟩
 refine h.2 κ' g a w hi' hops next Q (λg' v w' he' hi2 hv=>?_)
 let g'':Gh:=⟨g'.F,λn=>if n<nx then g'.blk n else g.blk n,λn=>if n<nx then g'.hi n else g.hi n,λn=>if n<nx then g'.cp n else g.cp n,λn=>if n<nx then g'.has n else g.has n⟩
 have e1:Ext nx g' g'':=⟨λ_ _ _ h=>h,λn hn=>if_pos hn,λn hn=>if_pos hn,λn hn=>if_pos hn,λn hn=>if_pos hn⟩;have eB:∀n,g''.blk n=g.blk n:=λn=>by
  show(if n<nx then g'.blk n else g.blk n)=_;split
  ·exact he'.blk n (by assumption)
  ·rfl
 have eH:∀n,g''.has n=g.has n:=λn=>by
  show(if n<nx then g'.has n else g.has n)=_;split
  ·exact he'.has n (by assumption)
  ·rfl
 have e2:Ext nx' g g'':=⟨he'.F,λn _=>eB n,λn _=>by
   show(if n<nx then g'.hi n else g.hi n)=_;split
   ·exact he'.hi n (by assumption)
   ·rfl,λn _=>by
   show(if n<nx then g'.cp n else g.cp n)=_;split
   ·exact he'.cp n (by assumption)
   ·rfl,λn _=>eH n⟩
 have J:Inv κ' g'' mem w':=hi2.grow hm e1 (zt _) (λ_ _=>rfl) (λ_ _ _ h=> .inl h) hi2.frz rfl rfl rfl;have onDn:∀n,On g'' (ext++mem) n->On g (ext++mem) n:=λn h=>by
  unfold On at h⊢;cases hl:look n (ext++mem)with
  |none=>rw[hl]at h;exact h.elim
  |some ob=>
   rw[hl]at h;cases ob with
   |tail=>show g.has n=true;rw[<-eH];exact h
   |vec=>show g.has n=true;rw[<-eH];exact h
   |cells=>trivial
   |loop=>trivial
   |mp=>show g.has n=true;rw[<-eH];exact h
   |tag=>exact h
   |frame=>exact h
 have same:∀n s c,look n ext=some (.cells s c)->w'.heap[g.blk n]? =w.heap[g.blk n]? /\(∀o,g.F (g.blk n) o=none->g''.F (g.blk n) o=none)/\∃arr T z,w.heap[g.blk n]? =some (.cells arr T z):=λn s c hl=>by
  have hl':look n (ext++mem)=some (.cells s c):=by rw[Y6,hl]
  have hon:On g (ext++mem) n:=by unfold On;rw[hl'];trivial
  obtain⟨arr,T,h1,_⟩:=hi.obs n _ hl';have hlt:g.blk n<w.heap.size:=by
   rcases yj (g.blk n) w.heap.size with h'|h'
   ·exact h'
   ·rw [xh h']at h1;cases h1
  have hnm:g.blk n∉md:=λhb=>by
   obtain⟨m,h2,h3⟩:=mdIn _ hb;have hmn:m≠n:=λh=>by
    subst h;unfold On at h2;cases hl2:look m mem with
    |none=>rw[hl2]at h2;exact h2
    |some ob=>have:=(hm m ob hl2).1;have:=(he.at_ m _ hl).1;omega
   exact hi.inj m n hmn (onUp m h2) hon h3
  refine⟨J.pres _ hlt hnm,λo ho=>?_,arr,T,_,h1⟩;cases hq:g''.F (g.blk n) o with
  |none=>rfl
  |some v=>
   rcases J.fnew _ _ _ hq with h|h|h
   ·rw [show κ'.F0=g.F from rfl,ho]at h;cases h
   ·have h':w.heap.size<=g.blk n:=h;omega
   ·exact (hnm h).elim
 refine hn g'' v w' e2 ⟨J.frz,λn ob hl=>?_,λn m hnm h h'=>?_,xy hi.size J.size,λb hb hbm=>?_,λn h=>?_,λb o v h=>J.f0 b o v (hi.f0 b o v h),λb o v h=>?_,J.os.trans hi.os,J.tape.trans hi.tape,J.output.trans hi.output,J.dfr⟩ (hv.ext e1 h.1)
 ·have hl2:=hl;rw[Y6]at hl;cases hx:look n ext with
  |none=>
   rw[hx]at hl;have:=J.obs n ob hl;cases ob<;>exact this
  |some x=>
   rw[hx]at hl;obtain rfl:x=ob:=za hl;obtain⟨q1,q2,q3,q4⟩:=he.at_ n x hx;cases x with
   |cells s c=>
    obtain⟨arr,T,h1,h2,h3,h4,h5,h6⟩:=hi.obs n _ hl2;obtain⟨s1,s2,_⟩:=same n s c hx;refine⟨arr,T,by rw[eB,s1];exact h1,h2,h3,h4,λj hj=>(h5 j hj).ext1 e2 ?_,λo=>by rw[eB];exact s2 o (h6 o)⟩;simp only[Ob.lt,ze]at q3;exact q3 _ (zm hj)
   |tag m t=>
    obtain⟨_,s,c,hm'⟩:=q4;obtain⟨arr,fz,h1⟩:=hi.obs n _ hl2;exact⟨arr,fz,by rw[eB,(same m s c hm').1];exact h1⟩
   |tail=>exact q4.elim
   |vec=>exact q4.elim
   |frame=>exact q4.elim
   |loop=>exact q4.elim
   |mp=>exact q4.elim
 ·rw [eB,eB];exact hi.inj n m hnm (onDn n h) (onDn m h')
 ·have:b∉md:=λhb'=>by
   rcases mdOwn b hb' with h|h
   ·omega
   ·exact hbm h
  exact(J.pres b (Nat.lt_of_lt_of_le hb hi.size) this).trans (hi.pres b hb hbm)
 ·rw [eB];exact hi.own n (onDn n h)
 ·rcases J.fnew b o v h with h|h|h
  ·exact hi.fnew b o v h
  ·exact .inr (.inl (xy hi.size h))
  ·exact .inr (mdOwn b h)
theorem Yl.frame{all:List Oper}{ext:List (Nat×Ob)}{o:Oper}{v:AV}(h:Yl P all mem nx sl o v)(hn':nx<=nx')(hm:∀n ob,look n mem=some ob->n<nx/\ob.lt nx=true)(he:QOe nx nx' ext):Yl P all (ext++mem) nx' sl o v:=by
 unfold Yl at h⊢;split at h
 ·exact h.frame hn' hm he
 ·obtain ⟨e,h1,h2⟩:=h;refine⟨e,h1,?_⟩;rcases h2 with⟨b,k1,k2,k3⟩|h2
  ·exact .inl ⟨b,k1,λhb=>(k2 hb).frame hn' hm he,k3⟩
  ·exact .inr h2
def YB(nx e:Nat)(ty:Ty):List (Nat×Ob):=
 match ty.kd with
 | .struct _=>[(nx+1,.tag nx e),(nx,.cells ty.size (ty.zero.map toA))]
 |_=>[(nx,.cells ty.size (ty.zero.map toA))]
def QBC(nx:Nat)(ty:Ty):Nat:=
 match ty.kd with
 | .struct _=>nx+2
 |_=>nx+1
theorem QMF(nx e:Nat)(ty:Ty):QOe nx (QBC nx ty) (YB nx e ty)/\nx<QBC nx ty:=by
 have hc:∀m,(Ob.cells ty.size (ty.zero.map toA)).lt m=true:=λm=>by
  simp only[Ob.lt,ze];intro x hx;obtain⟨y,_,rfl⟩:=yf.1 hx;exact QAM _ _
 unfold YB QBC;split
 ·refine ⟨⟨λn ob hl=>?_⟩,by omega⟩;rw[QC,QC]at hl;by_cases h1:n=nx+1
  ·rw [if_pos h1]at hl;obtain rfl:=za hl;refine⟨by omega,by omega,by simp[Ob.lt],zt _,ty.size,ty.zero.map toA,?_⟩;rw[QC,if_neg (by omega),QC,if_pos rfl]
  ·rw [if_neg h1]at hl;by_cases h2:n=nx
   ·rw [if_pos h2]at hl;obtain rfl:=za hl;exact⟨by omega,by omega,hc _,trivial⟩
   ·rw [if_neg h2]at hl;cases hl
 ·refine ⟨⟨λn ob hl=>?_⟩,by omega⟩;rw[QC]at hl;by_cases h2:n=nx
  ·rw [if_pos h2]at hl;obtain rfl:=za hl;exact⟨by omega,by omega,hc _,trivial⟩
  ·rw [if_neg h2]at hl;cases hl
theorem QJ3{e:Nat}:∀p∈YB nx e ty,p.1<QBC nx ty/\p.2.lt (QBC nx ty)=true:=by
 have hc:∀m,(Ob.cells ty.size (ty.zero.map toA)).lt m=true:=λm=>by
  simp only[Ob.lt,ze];intro x hx;obtain⟨y,_,rfl⟩:=yf.1 hx;exact QAM _ _
 unfold YB QBC;split
 ·intro p hp;simp only[zi,xq,or_false]at hp;rcases hp with rfl|rfl
  ·exact ⟨by show nx+1<nx+2;omega,by simp[Ob.lt]⟩
  ·exact ⟨by show nx<nx+2;omega,hc _⟩
 ·intro p hp;simp only[zi,xq,or_false]at hp;subst hp;exact⟨by show nx<nx+1;omega,hc _⟩
theorem QJ4{o:Oper}{e:Nat}(hti:QU P ti)(hop:o.op= .alloc e)(ht:ti e=some ty)(hz:ty.zero.length=ty.size)(h0:0<ty.size)(hi:Inv κ g mem w)(hok:(S.mk [] mem nx).ok=true)
  {next:Act->World->Prop} (hn:∀g' u w',Ext nx g g'->Inv κ g' (YB nx e ty++mem) w'->AVR g' (.ptr nx 0) u->next (a.put o.dst u) w'):o.wpIn (wd κ.rd) 0 P a w next Q:=by
 obtain⟨u,i,ht'⟩:=QE (hti _ _ ht);obtain⟨zv,hzv,hLR,hLA⟩:=Zl (g:=g) (z:=i.zero) (h:=slH P 6 e) (by rw[ht'.zero];omega);rw[ht'.zero]at hLR hLA;have hlt:∀x∈ty.zero.map toA,x.lt1 nx=true:=λx hx=>by obtain⟨y,_,rfl⟩:=yf.1 hx;exact QAM _ _
 have hsz:zv.cells.size=ty.size:=by rw[<-hLR.1,hz]
 have hr:(execOp a.eval o).run P w= .ok (.value (.pointer (some ⟨w.heap.size,0,none⟩))) (w.alloc (.cells zv.cells e)):=by
  simp only[execOp,hop,Instr.alloc,newVar,newRow,zeroValue,zp,ZE ht'.info,hzv,run_newObj,zq,zg];rfl
 obtain⟨g',he,hb,hi'⟩:=hi.newCells (σ:=S.mk [] mem nx) (w':=w.alloc (.cells zv.cells e)) hok rfl rfl rfl rfl (by rw[zb,hz];exact hsz.symm) (λj hj=>by simp only[z1];exact QEP _) hlt hLA.2;rw[hsz]at hi';refine Qc hr (hn g' _ _ he ?_ (by rw[<-hb];exact .ptr _ _));unfold YB;split
 ·exact hi'.addTag (n:=nx+1) (m:=nx) (t:=e) (arr:=zv.cells) (fz:=(0,0)) (by rw[hb];exact Vc _ _)
 ·exact hi'
def Q5(o:Oper):Oper:= {o with op:= .move (.const (.int .i64 0))}
theorem QCj{h:Nat}{o:Oper}(ho:ops[h]? =some o)(j:Nat):Qq (ops.set h (Q5 o)) j=Qq ops j:=by
 unfold Qq;rw[j8];by_cases hj:h=j
 ·subst hj;rw[if_pos rfl,if_pos (z6.1 ho).1,ho];rfl
 ·rw [if_neg hj]
theorem Yl.all{a b:List Oper}{o:Oper}{v:AV}(hg:∀j,Qq a j=Qq b j)(h:Yl P a mem nx sl o v):Yl P b mem nx sl o v:=by
 unfold Yl at h⊢;split at h
 ·exact h
 ·obtain ⟨e,h1,h2⟩:=h;exact⟨e,by rw[<-hg];exact h1,h2⟩
structure StN(κ:Ctx)(N:Nat)(pre:List Oper)(vs:List AV)(σ:S)(ext:List (Nat×Ob))(h d:Nat)(lh:Bool)(L:Nat->Prop)(g:Gh)(a:Act)(w:World):Prop where
 size:a.tmps.size=N
 defers:a.defers=κ.df.map mark
 inv:Inv κ g (bif lh then ext++σ.mem else σ.mem) w
 ptr:lh=true->AVR g (.ptr σ.nx 0) (a.tmps.getD d undef)
 new:∀i e,i≠h->L i->Qq pre i=some e->AVR g (vs.getD i .junk) (a.tmps.getD e undef)
 old:∀k v,look k σ.sl=some v->(∀i,L i->Qq pre i≠some k)->AVR g v (a.tmps.getD k undef)
theorem QLC(hti:QU P ti){ms:List Nat}{K:S->Prop}{h e dh:Nat}{oh:Oper}{σ σ':S}{vs:List AV}(hoh:ops[h]? =some oh)(hop:oh.op= .alloc e)(hgd:oh.guard=none)(hdh:oh.dst=some dh)(ht:ti e=some ty)(hz:ty.zero.length=ty.size)(h0s:0<ty.size)(hhm:h<m)
  (hnr:∀o∈(ops.set h (Q5 oh)).take m,dh∉reads (ops.set h (Q5 oh)) o) (hms:QFD [] 0 ops=some ms) (hm:m<=ops.length) (hf:∀i',m<=i'->i'<ops.length->∀j,j<i'->(ms.getD i' 0).testBit j=true)
  (hw:X8 (ops.set h (Q5 oh)) ((ops.set h (Q5 oh)).take m) ms 0 ((ops.set h (Q5 oh)).take m)=true) (hok:σ.ok=true) (hok':σ'.ok=true) (hmem:σ'.mem=σ.mem) (hnx:σ'.nx=σ.nx) (hch:QCg P (ops.set h (Q5 oh)) σ.mem σ.nx N ((ops.set h (Q5 oh)).take m) vs σ.sl σ'.sl)
  (hQ:∀g' σ' a' w',K σ'->St κ N g' σ' a' w'->Q .normal a' w') (htail:Zp P ti N ops (ops.drop m) ⟨(dh,.ptr σ.nx 0)::σ'.sl,YB σ.nx e ty++σ.mem,QBC σ.nx ty⟩ K):∀(c:Nat) (U:List Nat) (listed:Array Bool) (g:Gh) (a:Act) (w:World),U.length=c->U.Nodup->(∀k,k∈U↔k<m/\listed.getD k true=false)->listed.size=ops.length->
   (∀k,m<=k->k<ops.length->listed.getD k true=false)->(∀k o,ops[k]? =some o->listed.getD k false=true->∀e∈o.after,Region.binds .any e=true->listed.getD e.on false=true)->
   StN κ N ((ops.set h (Q5 oh)).take m) vs σ (YB σ.nx e ty) h dh (listed.getD h false) (λi=>listed.getD i false=true) g a w->wpAnyIn (wd κ.rd) 0 P .any ops.toArray Q (c+(ops.length-m)) listed a w:=by
 obtain⟨huniq,htied⟩:=Y3 hw;obtain⟨hlen,hend,hat⟩:=QAW _ _ _ _ hch huniq;obtain⟨⟨r',hr',hrl⟩,hs⟩:=Jl ops ops [] 0 ms hms rfl (λj=>by simp);obtain⟨hext,hnxlt⟩:=QMF σ.nx e ty;have hmemOK:∀n ob,look n σ.mem=some ob->n<σ.nx/\ob.lt σ.nx=true:=λn ob hl=>S.ok_mem hok hl;have hpl:((ops.set h (Q5 oh)).take m).length=m:=by simp[ud hm]
 have hgs:∀i,i<m->Qq ((ops.set h (Q5 oh)).take m) i=Qq ops i:=λi hi=>by rw[QJs hi,QCj hoh]
 have hhd:Qq ((ops.set h (Q5 oh)).take m) h=some dh:=by rw[hgs h hhm];unfold Qq;rw[hoh];exact hdh
 have hdN:dh<N:=by
  obtain⟨_,d,_,q1,q2,_⟩:=hat h (Q5 oh) (by rw[wb,if_pos hhm,j8,if_pos rfl,if_pos (by omega)]);have:d=dh:=by
   have q1':oh.dst=some d:=q1;rw[hdh]at q1';exact(za q1').symm
  omega
 intro c;induction c with
 |zero=>
  intro U listed g a w hU hnd hmemU hsz h2 hcl hst;have hU0:U=[]:=yx.1 hU;subst hU0;have h1:∀k,k<m->listed.getD k false=true:=λk hk=>by
   cases hq:listed.getD k false with
   |true=>rfl
   |false=>exact absurd ((hmemU k).2 ⟨hk,by rw[Q8 (by omega)];exact hq⟩) (by simp)
  have hst':St κ N g ⟨(dh,.ptr σ.nx 0)::σ'.sl,YB σ.nx e ty++σ.mem,QBC σ.nx ty⟩ a w:=by
   have hinv:=hst.inv;rw[h1 h hhm]at hinv;refine⟨hst.size,hst.defers,λk v hk=>?_,hinv,?_⟩
   ·rw [QC]at hk;by_cases hkd:k=dh
    ·subst hkd;rw[if_pos rfl]at hk;obtain rfl:=za hk;exact hst.ptr (h1 h hhm)
    ·rw [if_neg hkd]at hk;refine Jy (λi=>i<m/\Qq ((ops.set h (Q5 oh)).take m) i=some k) _ (fun⟨i,hi,hik⟩=>?_) λhno=>?_
     ·have hih:i≠h:=λhh=>by
       subst hh;rw[hhd]at hik;exact hkd (za hik).symm
      have:=hend.new i k (by omega) hik;rw[hk]at this;obtain rfl:=za this;exact hst.new i k hih (h1 i hi) hik
     ·rw [hend.old k λi hi he=>hno i ⟨by omega,he⟩]at hk;exact hst.old k v hk λi _ he=>hno i ⟨by have:=Y4 he;omega,he⟩
   ·refine S.ok_iff.2 ⟨λp hp=>?_,λp hp=>?_⟩
    ·rcases zi.1 hp with rfl|hp
     ·exact QBR hnxlt
     ·have:=(S.ok_iff.1 hok').1 p hp;rw[hnx]at this;exact AV.lt_mono this (Wo hnxlt)
    ·rcases yd.1 hp with hp|hp
     ·exact QJ3 p hp
     ·have:=S.ok_memAll hok p hp;exact⟨by show p.1<QBC σ.nx ty;omega,Ob.lt_mono this.2 (Wo hnxlt)⟩
  have:=QEh hti hms hf hQ (ops.drop m) m listed _ g a w (zt _) (by simp;omega) (λj=>by simp) hsz h1 h2 htail hst';simpa using this
 |succ c ih=>
  intro U listed g a w hU hnd hmemU hsz h2 hcl hst;rw[show c+1+(ops.length-m)=(c+(ops.length-m))+1 by omega];refine⟨λh0=>?_,λi hi=>?_⟩
  ·have none:∀n k,k<n->k∈U->False:=by
    intro n;induction n with
    |zero=>intro k h;omega
    |succ n ihn=>
     intro k hk hkU;obtain⟨hkm,hku⟩:=(hmemU k).1 hkU;have hko:ops[k]? =some ops[k]:=zj (by omega);have:k∈Region.ready .any ops.toArray listed:=by
      rw[mem_ready];refine⟨hku,ops[k],by simpa using hko,λe he hb=>?_⟩;have hlt:=(Yq (hs k _ (z7 _) hko)).1 e (by simpa using he) hb;cases hq:listed.getD e.on false with
      |true=>rfl
      |false=>exact(ihn e.on (by omega) ((hmemU _).2 ⟨by omega,by rw[Q8 (by omega)];exact hq⟩)).elim
     rw[h0]at this;cases this
   cases U with
   |nil=>cases hU
   |cons u t=>exact(none (u+1) u (y6 _) zo).elim
  ·obtain ⟨k1,o,k2,k3⟩:=mem_ready.1 hi;have ho:ops[i]? =some o:=by simpa using k2
   have hil:=(z6.1 ho).1;have hun:listed.getD i false=false:=by rw[<-Q8 (by omega)];exact k1
   have hanc:∀j,(ms.getD i 0).testBit j=true->listed.getD j false=true:=Y2 hms (L:=λk=>listed.getD k false=true) hcl (i+1) i (y6 _) o ho k3;have him:i<m:=by
    rcases yj i m with h'|h'
    ·exact h'
    ·exfalso;cases U with
     |nil=>cases hU
     |cons u t=>
      obtain⟨q1,q2⟩:=(hmemU u).1 zo;have:=hanc u (hf i h' hil u (by omega));rw[Q8 (by omega),this]at q2;cases q2
   have hlist:∀j,(listed.setIfInBounds i true).getD j false=true->j=i\/listed.getD j false=true:=λj hj=>by
    by_cases hji:i=j
    ·exact .inl hji.symm
    ·rw [getD_set_ne false hji]at hj;exact .inr hj
   have go:∀ {g':Gh} {u:Value} {w':World},StN κ N ((ops.set h (Q5 oh)).take m) vs σ (YB σ.nx e ty) h dh ((listed.setIfInBounds i true).getD h false) (λj=>(listed.setIfInBounds i true).getD j false=true) g' (a.put o.dst u) w'->wpAnyIn (wd κ.rd) 0 P .any ops.toArray Q (c+(ops.length-m)) (listed.setIfInBounds i true) (a.put o.dst u) w':=fun{g' u w'} hst'=>by
    refine ih (U.erase i) _ g' _ w' (by rw[jz ((hmemU i).2 ⟨him,k1⟩)];omega) (hnd.erase i) (λk=>?_) (by simp[hsz]) (λk hk1 hk2=>?_) (λk o' ho' hk1 e he' hb=>?_) hst'
    ·rw [hnd.mem_erase_iff,hmemU];by_cases hki:k=i
     ·subst hki;rw[Qm _ (by omega)];simp
     ·rw [getD_set_ne true (vb hki)];simp[hki]
    ·rw [getD_set_ne true (by omega)];exact h2 k hk1 hk2
    ·rcases hlist k hk1 with rfl|hk1
     ·rw [ho]at ho';obtain rfl:=za ho';exact getD_set_true (k3 e he' hb)
     ·exact getD_set_true (hcl k o' ho' hk1 e he' hb)
   by_cases hih:i=h
   ·subst hih;have hoo:o=oh:=by rw[hoh]at ho;exact(za ho).symm
    subst hoo;have hinv:=hst.inv;rw[hun,cond_false]at hinv;have ho':ops.toArray[i]? =some o:=by simpa using hoh
    simp only[wpOpIn,ho'];rw[if_pos (XA hgd)];refine QJ4 (nx:=σ.nx) hti hop ht hz h0s hinv (S.ok_iff.2 ⟨(λp hp=>by cases hp),(λp hp=>S.ok_memAll hok p hp)⟩) λg' u w' he hi' hu=>go (g':=g') ?_;have hput:∀x,(a.put o.dst u).tmps.getD x undef=if x=dh then u else a.tmps.getD x undef:=λx=>by
     rw[hdh,Zm,YN _ _ _ _ (by rw[hst.size];exact hdN)]
    refine⟨by rw[hdh];simp[Zm,hst.size],by rw[put_defers];exact hst.defers,by rw[Qm _ (by omega)];exact hi',λ_=>by rw[hput,if_pos rfl];exact hu,λj e' hji hj hje=>?_,λk v hk' hno=>?_⟩
    ·rw [hput];have hed:e'≠dh:=λh=>by
      subst h;exact hji (huniq j i e' hje hhd)
     rw[if_neg hed];rcases hlist j hj with rfl|hj'
     ·exact (hji rfl).elim
     ·have hjl:=Y4 hje;obtain⟨_,_,_,_,_,q,_⟩:=hat j _ (zj hjl);exact(hst.new j e' hji hj' hje).ext he q
    ·rw [hput,if_neg (by
      rintro rfl;exact hno i (Qm _ (by omega)) hhd)]
     exact(hst.old k v hk' λj hj=>hno j (getD_set_true hj)).ext he (S.ok_sl hok hk')
   ·have hop':((ops.set h (Q5 oh)).take m)[i]? =some o:=by rw[wb,if_pos him,j8,if_neg (vb hih)];exact ho
    obtain⟨slj,d,hk,hd,hdN',hvl,hy⟩:=hat i o hop';have hslot:Qq ((ops.set h (Q5 oh)).take m) i=some d:=by unfold Qq;rw[hop'];exact hd
    have hdd:d≠dh:=λhq=>by
     subst hq;exact hih (huniq i h d hslot hhd)
    have hreads:reads (ops.set h (Q5 oh)) o=reads ops o:=by
     unfold reads;congr 1;cases o.guard with
     |none=>rfl
     |some p=>obtain⟨j,c⟩:=p;show(Qq _ j).toList=(Qq _ j).toList;rw[QCj hoh]
    have hrd:∀t,t∈reads ops o->∀v,look t slj=some v->AVR g v (a.tmps.getD t undef):=λt ht v hv=>by
     have ht':t∈reads (ops.set h (Q5 oh)) o:=by rw[hreads];exact ht
     refine Jy (λj=>j<i/\Qq ((ops.set h (Q5 oh)).take m) j=some t) _ (fun⟨j,hj,hjt⟩=>?_) λhno=>?_
     ·have hjh:j≠h:=λhq=>by
       subst hq;rw[hhd]at hjt;obtain rfl:=za hjt;exact hnr o (ya hop') ht'
      have:=hk.new j t hj hjt;rw[hv]at this;obtain rfl:=za this;have htd:=YT (htied j t hjt) hop' ht';simp only[y5]at htd;rcases htd with⟨_,hb⟩|⟨hlt,_⟩
      ·exact hst.new j t hjh (hanc j hb) hjt
      ·omega
     ·rw [hk.old t λj hj hjt=>hno j ⟨hj,hjt⟩]at hv;refine hst.old t v hv λj hj hjt=>?_;have htd:=YT (htied j t hjt) hop' ht';simp only[y5]at htd;rcases htd with⟨hlt,_⟩|⟨hlt,hb⟩
      ·exact hno j ⟨hlt,hjt⟩
      ·have hjm:=Y4 hjt;rw[hpl]at hjm;have hjo:ops[j]? =some ops[j]:=zj (by omega);have:=Y2 hms (L:=λk=>listed.getD k false=true) hcl (j+1) j (y6 _) _ hjo (hcl j _ hjo hj) i hb;rw[hun]at this;cases this
    have hy':Yl P ops σ.mem σ.nx slj o (vs.getD i .junk):=hy.all (QCj hoh);have hlh:(listed.setIfInBounds i true).getD h false=listed.getD h false:=getD_set_ne false hih;have fin:∀ {g':Gh} {u:Value} {w':World} {nx':Nat},σ.nx<=nx'->(listed.getD h false=true->σ.nx<nx')->Ext nx' g g'->Inv κ g' (bif listed.getD h false then YB σ.nx e ty++σ.mem else σ.mem) w'->AVR g' (vs.getD i .junk) u->
      StN κ N ((ops.set h (Q5 oh)).take m) vs σ (YB σ.nx e ty) h dh ((listed.setIfInBounds i true).getD h false) (λj=>(listed.setIfInBounds i true).getD j false=true) g' (a.put o.dst u) w':=fun{g' u w' nx'} hnn hnl he hi' hu=>by
     have he0:Ext σ.nx g g':=he.mono hnn;have hput:∀x,(a.put o.dst u).tmps.getD x undef=if x=d then u else a.tmps.getD x undef:=λx=>by
      rw[hd,Zm,YN _ _ _ _ (by rw[hst.size];exact hdN')]
     refine⟨by rw[hd];simp[Zm,hst.size],by rw[put_defers];exact hst.defers,by rw[hlh];exact hi',λhl=>?_,λj e' hjh hj hje=>?_,λk v hk' hno=>?_⟩
     ·rw [hlh]at hl;rw[hput,if_neg (vb hdd)];exact(hst.ptr hl).ext he (QBR (hnl hl))
     ·rw [hput];by_cases hed:e'=d
      ·subst hed;have:=huniq j i e' hje hslot;subst this;rw[if_pos rfl];exact hu
      ·rw [if_neg hed];rcases hlist j hj with rfl|hj'
       ·rw [hslot]at hje;exact(hed (za hje).symm).elim
       ·have hjl:=Y4 hje;obtain⟨_,_,_,_,_,q,_⟩:=hat j _ (zj hjl);exact(hst.new j e' hjh hj' hje).ext he0 q
     ·rw [hput,if_neg (by
       rintro rfl;exact hno i (Qm _ (by omega)) hslot)]
      exact(hst.old k v hk' λj hj=>hno j (getD_set_true hj)).ext he0 (S.ok_sl hok hk')
    have hinv:=hst.inv;cases hlb:listed.getD h false with
    |false=>
     rw[hlb,cond_false]at hinv;rw[hlb]at fin;exact QBY ho hy' hinv hrd λg' u w' he hi' hu=>go (fin (zt _) (λh=>by cases h) he hi' hu)
    |true=>
     rw[hlb,cond_true]at hinv;rw[hlb]at fin;exact QBY ho (hy'.frame (Wo hnxlt) hmemOK hext) hinv hrd λg' u w' he hi' hu=>go (fin (Wo hnxlt) (λ_=>hnxlt) he hi' hu)
def QST(all:List Oper)(d:Nat)(l:List Oper):Bool:=l.all λo=> !Xf d (reads all o)
def QQX(ops:List Oper)(h:Nat)(oh:Oper)(m:Nat):Bool:=
 match QFD [] 0 ops,oh.dst,oh.guard with
 |some ms,some d,none=>Nat.blt h m&&Nat.ble m ops.length&&X8 (ops.set h (Q5 oh)) ((ops.set h (Q5 oh)).take m) ms 0 ((ops.set h (Q5 oh)).take m)&&forced ms ops.length m (ops.length-m)&&QST (ops.set h (Q5 oh)) d ((ops.set h (Q5 oh)).take m)
 |_,_,_=>false
def QJ5(P:Program)(ti:Nat->Option Ty)(N:Nat)(ops:List Oper)(h m:Nat)(σ:S)(K:S->Prop):Prop:=
 match ops[h]? with
 |some oh=>match oh.op,oh.dst with
  | .alloc e,some d=>match ti e with
   |some ty=>bif QQX ops h oh m&&(Nat.beq ty.zero.length ty.size&&Nat.blt 0 ty.size)then JS P ti N (ops.set h (Q5 oh)) ((ops.set h (Q5 oh)).take m) σ λσ'=>Zp P ti N ops (ops.drop m) ⟨(d,.ptr σ.nx 0)::σ'.sl,YB σ.nx e ty++σ'.mem,QBC σ'.nx ty⟩ K else False
   |none=>False
  |_,_=>False
 |none=>False
theorem QOf(hti:QU P ti)(hm:P.follows .mixedOrders=true){id:Nat}{σ:S}{K:S->Prop}(h m:Nat)(hK:QJ5 P ti N ops h m σ K):QX P ti N id ops σ K:=by
 unfold QJ5 at hK;split at hK
 case h_2=>exact hK.elim
 rename_i oh hoh;split at hK
 case h_2=>exact hK.elim
 rename_i e d hop hd;split at hK
 case h_2=>exact hK.elim
 rename_i ty hty;obtain⟨hb,hK⟩:=Qf hK;simp only[zf]at hb;obtain⟨hb,hb1,hb2⟩:=hb;unfold QQX at hb;split at hb
 case h_2=>cases hb
 rename_i ms d' hms hd' hg;have hdd:d'=d:=by rw[hd]at hd';exact(za hd').symm
 subst hdd;simp only[zf]at hb;obtain⟨⟨⟨⟨c1,c2⟩,c3⟩,c4⟩,c5⟩:=hb;have hml:=yg c2;have hhm:h<m:=by simpa using c1
 refine⟨λκ g a w _ hst=>wpIn_region_any hm ?_⟩;obtain⟨vs,σ',htail,hok',hmem,hnx,hch⟩:=YS hti _ σ hst.ok hK;rw[hmem,hnx]at htail;have key:∀Q:Exit->Act->World->Prop,(∀g' σ' a' w',K σ'->St κ N g' σ' a' w'->Q .normal a' w')->wpAnyIn (wd κ.rd) 0 P .any ops.toArray Q ops.length (Array.replicate ops.length false) a {w with drawn:=w.drawn+1}:=λQ hQ=>by
  have:=QLC (Q:=Q) hti hoh hop hg hd hty (zh hb1) (by simpa using hb2) hhm (λo ho=>by
    unfold QST at c5;rw[ze]at c5;have:=c5 o ho;rw[wx]at this;intro hmem';rw[ZF.2 hmem']at this;cases this) hms hml (λi' h1 h2=>YU c4 i' h1 (by omega)) c3 hst.ok hok' hmem hnx hch hQ htail m (List.range m) (Array.replicate ops.length false) g a {w with drawn:=w.drawn+1}
   xj qf (λk=>by
    rw[xd];refine⟨λhk=>⟨hk,by simp[Array.getD,show k<ops.length by omega]⟩,λhk=>hk.1⟩) (by simp) (λk _ hk=>by simp[Array.getD,hk]) (λk o _ hk=>by simp[Array.getD]at hk)
   (by
    have hf:(Array.replicate ops.length false).getD h false=false:=by simp[Array.getD]
    rw[hf];exact⟨hst.size,hst.defers,hst.inv.drew _,(λhl=>by cases hl),λi d _ hi=>by simp[Array.getD]at hi,λk v hk _=>hst.sl k v hk⟩)
  rw[show m+(ops.length-m)=ops.length by omega]at this;exact this
 rw[We];exact key _ λg' σ' a' w' hK hst'=> .of hK hst'
def QFy:Nat->List Oper->Nat
 |i,[]=>i
 |i,o::r=>match o.op with
  | .alloc _=>i
  |_=>QFy (i+1) r
theorem QAw(hti:QU P ti)(hm:P.follows .mixedOrders=true){id:Nat}{σ:S}{K:S->Prop}(hK:QJ5 P ti N ops (QFy 0 ops) (cut ops) σ K):QX P ti N id ops σ K:=QOf hti hm _ _ hK
theorem Inv.mark{b:Nat}{T:TypeId}{fz fz':Nat×Nat}(hi:Inv κ g mem w)(hb:w.heap[b]? =some (.cells arr T fz))(hw:∀k,w'.heap[k]? =if k=b then some (.cells arr T fz')else w.heap[k]?)
  (hsz:w'.heap.size=w.heap.size) (h1:w'.os=w.os) (h2:w'.tape=w.tape) (h3:w'.output=w.output) (hno:∀n,On g mem n->g.blk n≠b) (hown:κ.w0.heap.size<=b\/b∈κ.mod):Inv κ g mem w':=by
 have hne:∀k,k≠b->w'.heap[k]? =w.heap[k]? :=λk hk=>by rw[hw,if_neg hk]
 have hcell:∀k o,w'.cell? ⟨k,o,none⟩=w.cell? ⟨k,o,none⟩:=λk o=>by
  by_cases hk:k=b
  ·subst hk;simp only[World.cell?,hw,if_pos,hb]
  ·simp only[World.cell?,hne k hk]
 refine⟨λb' o v h=>by rw[hcell];exact hi.frz b' o v h,λn ob hn=>?_,hi.inj,by rw[hsz];exact hi.size,λb' hb' hm=>?_,hi.own,hi.f0,hi.fnew,h1.trans hi.os,h2.trans hi.tape,h3.trans hi.output,λD hD=>?_⟩
 ·have hob:=hi.obs n ob hn;have hon:(match ob with| .cells .. =>True| .tail .. =>g.has n=true| .vec .. =>g.has n=true| .tag .. =>False| .frame .. =>False| .loop .. =>True| .mp .. =>g.has n=true)->w'.heap[g.blk n]? =w.heap[g.blk n]? :=λh=>hne _ (hno n (by unfold On;rw[hn];cases ob<;>exact h));cases ob with
  |cells size c=>
   obtain⟨arr',T',e1,e2⟩:=hob;exact⟨arr',T',by rw[hon trivial];exact e1,e2⟩
  |tail t b=>
   refine⟨λhh=>?_,hob.2⟩;obtain⟨arr',u,e1,e2⟩:=hob.1 hh;exact⟨arr',u,by rw[hon hh];exact e1,e2⟩
  |vec t sz es f=>exact ZM.mono hob (λ_ _ _ h=>h) rfl rfl rfl rfl (λhh=>hon hh) (λ_ _ h=>h)
  |tag m t=>
   obtain⟨arr',fz2,e⟩:=hob;by_cases hk:g.blk m=b
   ·rw [hk,hb]at e;cases e;exact⟨arr,fz',by rw[hw,if_pos hk]⟩
   ·exact ⟨arr',fz2,by rw[hne _ hk];exact e⟩
  |frame sz l=>exact hob
  |loop k ps asg body st pd=>
   obtain⟨e0,fn,D,e⟩:=hob;exact⟨e0,fn,D,by rw[hon trivial];exact e⟩
  |mp b ag tp l=>exact ZQ.mono hob (λ_ _ _ h=>h) rfl rfl rfl rfl (λhh=>hon hh) (λ_ _ h=>h)
 ·rw [hne b' (λh=>by
   subst h;rcases hown with h|h
   ·omega
   ·exact hm h)]
  exact hi.pres b' hb' hm
 ·have hd:=hi.dfr D hD;rw[hne D (λh=>by subst h;rw[hb]at hd;cases hd)];exact hd
theorem QCk{e b c:Nat}{T:TypeId}(hs:P.underlying s=some (.slice e))(he:P.underlying e=some (.int .u8))(hb:w.heap[b]? =some (.cells arr T (0,0))):
  (convert s s (.slice (some ⟨b,off,none⟩) n c)).run P w= .ok (.slice (some ⟨b,off,none⟩) n c) (w.freeze ⟨b,arr.size,none⟩ 1):=by
 have hsh:w.shape? b=some (T,arr.size):=by
  unfold World.shape?;rw[hb]
 simp[convert,run_underlying hs,run_underlying he,markStringish,hsh]
theorem QIi{b:Nat}{T:TypeId}(hb:w.heap[b]? =some (.cells arr T (0,0)))(k:Nat):(w.freeze ⟨b,n,none⟩ 1).heap[k]? =if k=b then some (.cells arr T (n,n+1))else w.heap[k]? :=by
 unfold World.freeze;rw[if_neg (by decide)];show(w.heap.modify b _)[k]? =_;rw[qi];by_cases hk:b=k
 ·subst hk;rw[if_pos rfl,if_pos rfl,hb];rfl
 ·rw [if_neg hk,if_neg (vb hk)]
theorem OpX.conv{o:Oper}{σ:S}{K:S->Prop}{tt len e:Nat}{es:List (List D)}{sty:Ty}(hti:QU P ti)(hop:o.op= .convert s s (.tmp t))(hd:o.dst=some d)(hx:look t σ.sl=some (.vx 1 n 0 len))(hm:look n σ.mem=some (.vec tt 1 es fl))(hl:len=es.length)(h0:0<len)
  (hs:ti s=some sty) (hsk:sty.kd= .slice e) (he:ti e=some ety) (hek:ety.kd= .int .u8) (hK:K ⟨(d,.d (.fs 1 es))::(t,.d (.fs 1 es))::σ.sl,QAZ σ.mem [n],σ.nx⟩):OpX P N o σ K:=by
 subst hl;refine⟨λhdN κ g a w hst next Q hn=>?_⟩;have hdN':=hdN d hd;let τ:S:=⟨(t,.d (.fs 1 es))::σ.sl,QAZ σ.mem [n],σ.nx⟩
 have hnub:∀k ob,look k (QAZ σ.mem [n])=some ob->k≠n/\look k σ.mem=some ob:=λk ob hk=>by
  obtain⟨h1,h2⟩:=QAv σ.mem [n] (k,ob) (Qb hk);exact⟨λh=>h1 (by simp[h]),h2⟩
 have hok:τ.ok=true:=by
  refine S.ok_iff.2 ⟨λp hp=>?_,λp hp=>?_⟩
  ·rcases zi.1 hp with rfl|hp
   ·rfl
   ·exact (S.ok_iff.1 hst.ok).1 p hp
  ·obtain ⟨h1,h2⟩:=QAv σ.mem [n] p hp;exact S.ok_memAll hst.ok p (Qb h2)
 obtain⟨F',hst'⟩:=QOc (τ:=τ) hm (λk v hk=>by
  rw[show τ.sl=(t,.d (.fs 1 es))::σ.sl from rfl,QC]at hk;by_cases hkt:k=t
  ·subst hkt;rw[if_pos rfl]at hk;obtain rfl:=za hk;exact⟨_,hx,.vx 0 es.length es (by omega) (by simp)⟩
  ·rw [if_neg hkt]at hk;exact⟨v,hk,.same v⟩) (λk ob hk=>⟨(hnub k ob hk).1,ob,(hnub k ob hk).2,.same ob⟩) hok hst
 have hon:On g σ.mem n->g.has n=true:=λh=>by unfold On at h;rw[hm]at h;exact h
 have hav:=hst.sl _ _ hx;obtain⟨v1,v2,v3⟩:ZM g w n tt 1 es fl:=hst.inv.obs n _ hm;generalize hu:a.tmps.getD t undef=u at hav;cases hav with|vx _ _ _ _ ad c hc had=>?_
 obtain⟨hh,rfl,_⟩:=had.pos (by omega);obtain⟨arr,e1,_⟩:=v3 hh;have hOn:On g σ.mem n:=by unfold On;rw[hm];exact hh
 obtain⟨u1,i1,hs'⟩:=QE (hti _ _ hs);obtain⟨u2,i2,he'⟩:=QE (hti _ _ he);obtain rfl:=Q3 hs' hsk;obtain rfl:=QAP he' hek;have hrun:(execOp a.eval o).run P w= .ok (.value (.slice (some ⟨g.blk n,g.hi n+0*1,none⟩) es.length c)) (w.freeze ⟨g.blk n,arr.size,none⟩ 1):=by
  have hev:a.eval (.tmp t)= .slice (some ⟨g.blk n,g.hi n+0*1,none⟩) es.length c:=hu;simp only[execOp,hop,hev,zp,QCk hs'.und he'.und e1,zg,zq]
 have hinv:=hst'.inv.mark (w':=w.freeze ⟨g.blk n,arr.size,none⟩ 1) e1 (QIi e1) (by
   unfold World.freeze;rw[if_neg (by decide)];simp) (by unfold World.freeze;rw[if_neg (by decide)]) (by unfold World.freeze;rw[if_neg (by decide)]) (by unfold World.freeze;rw[if_neg (by decide)]) (λk hk=>by
   have hk':k≠n/\On g σ.mem k:=by
    unfold On at hk⊢;cases hl:look k (QAZ σ.mem [n])with
    |none=>
     have:look k τ.mem=none:=hl;rw[this]at hk;exact hk.elim
    |some ob=>
     have:look k τ.mem=some ob:=hl;rw[this]at hk;obtain⟨q1,q2⟩:=hnub k ob hl;rw[q2];exact⟨q1,hk⟩
   exact hst.inv.inj k n hk'.1 hk'.2 hOn) (hst.inv.own n hOn)
 have hval:=hst'.sl t (.d (.fs 1 es)) (by rw[show τ.sl=(t,.d (.fs 1 es))::σ.sl from rfl,QC,if_pos rfl]);rw[hu]at hval;have hst2:St κ N {g with F:=F'} τ a (w.freeze ⟨g.blk n,arr.size,none⟩ 1):=⟨hst'.size,hst'.defers,hst'.sl,hinv,hst'.ok⟩;refine Qc hrun (hn {g with F:=F'} _ _ _ hK ?_);rw[hd];exact hst2.put hdN' (.refl _ _) hinv hval (S.ok_cons hst2.ok (zt _) rfl (S.ok_memAll hst2.ok))
def QVS(ti:Nat->Option Ty)(N:Nat)(rs:List ResultVar)(R:AV->Prop):Exit->S->Prop
 | .ret,σ| .normal,σ=>∃τ,Wk N σ τ/\fin ti rs R .ret τ
 |_,_=>False
theorem FnC.introW{c:Code}{args:List AV}{r:AV}(hti:QU P ti)(hf:P.funcs[f]? =some fn)(hb:fn.body=some c)(hN:fn.ntmps=N)(hcall:∀(vs:Array Value) (w:World),(callFunc f vs).run P w= .ok (.enter f vs) w)
  (hargs:args.all AV.isP=true) (hlen:args.length<=N) (hr:r.isP=true) (h:vc P ti N c (QVS ti N fn.results.toList (· =r)) ⟨idx 0 args,[],0⟩):FnC P f args r:=by
 refine⟨hr,λg w vs hfz hG hsz hav=> .inl ⟨hcall vs w,?_⟩⟩;have hst:St ⟨w,g.F,[],none,[],[],λ_=> #[],λ_=>0,hG⟩ N {g with has:=λ_=>false} ⟨idx 0 args,[],0⟩ {tmps:=vs++Array.replicate (fn.ntmps-vs.size) undef,defers:=[]} w:=by
  refine⟨by simp;omega,rfl,λk v hk=>?_,⟨hfz,(λn ob hn=>by cases hn),(λn m _ (h1:On _ [] n) _=>h1.elim),zt _,λ_ _ _=>rfl,(λn (h:On _ [] n)=>h.elim),λ_ _ _ h=>h,λ_ _ _ h=> .inl h,rfl,rfl,rfl,λD hD=>by cases hD⟩,?_⟩
  ·obtain ⟨h1,_,h3⟩:=QB8 args 0 k v hk;simp only[qk]at h1 h3;subst h3;have:=hav k h1;have e:(vs++Array.replicate (fn.ntmps-vs.size) undef).getD k undef=vs.getD k undef:=by
    have hk1:k<vs.size:=by omega
    rw[Array.getD,dif_pos (by simp;omega),Array.getD,dif_pos hk1];exact wg hk1
   simp only[e];exact Zw (g:=g) (g':= {g with has:=λ_=>false}) (λ_ _ _ h=>h) (QC2 hargs k h1) this
  ·rw [S.ok_iff];exact⟨λp hp=>QAN (ze.1 hargs _ (QAu _ _ _ hp)) _,(λp hp=>by cases hp)⟩
 refine YR hti hf hb hN rfl rfl h hst (λe σ hq=>?_) λe g' σ' a' w' hq hst'=>?_
 ·cases e with
  |ret=>exact .inl rfl
  |normal=>exact .inr rfl
  |_=>exact hq.elim
 ·have hq':∃τ,Wk N σ' τ/\fin ti fn.results.toList (· =r) .ret τ:=by
   cases e with
   |ret=>exact hq
   |normal=>exact hq
   |_=>exact hq.elim
  obtain⟨τ,hwk,hq'⟩:=hq';obtain⟨g2,hst2⟩:=hwk.run _ _ _ _ hst';obtain⟨v,u,F',⟨rfl,k1,k2,f1,f2,f3⟩,k3⟩:=QOR hti hst2 (.inl rfl) hq';have hi:=hst2.inv;have hnew:∀b o v,F' b o=some v->g.F b o=some v\/w.heap.size<=b:=λb o v h=>by
   rcases f2 b o v h with h|h|h
   ·rcases hi.fnew b o v h with h|h|h
    ·exact .inl h
    ·exact .inr h
    ·cases h
   ·exact .inr h
   ·cases h
  exact⟨u,k3,u,{g2 with F:=F'},rfl,k2,λb o v h=>f1 b o v (hi.f0 b o v h),hnew,f3,hi.size,λb hb=>hi.pres b hb (by simp),hi.os,hi.tape,hi.output⟩
theorem AtD.now{a:List D}{K:List D->Prop}(h:K a):AtD a K:=⟨h⟩
theorem Inv.redo{o o':Ob}(hi:Inv κ g mem w)(hn:look n mem=some o)(ho:Zv κ g w n o')(hon:On g ((n,o')::mem) n->On g mem n):Inv κ g ((n,o')::mem) w:=by
 have on:∀k,On g ((n,o')::mem) k->On g mem k:=λk h=>by
  by_cases hk:k=n
  ·subst hk;exact hon h
  ·unfold On at h⊢;rw[QC,if_neg hk]at h;exact h
 refine⟨hi.frz,λk ob hk=>?_,λk m hkm h h'=>hi.inj k m hkm (on k h) (on m h'),hi.size,hi.pres,λk h=>hi.own k (on k h),hi.f0,hi.fnew,hi.os,hi.tape,hi.output,hi.dfr⟩;rw[QC]at hk;by_cases hkn:k=n
 ·rw [if_pos hkn]at hk;obtain rfl:=za hk;rw[hkn];exact ho
 ·rw [if_neg hkn]at hk;exact hi.obs k ob hk
theorem Wk.nlTs{σ:S}(n j size sz t:Nat)(hn:look n σ.mem=some (.cells size c))(hc:c[j]? =some (.nl sz)):
  Wk N σ ⟨σ.sl,(n,.cells size (c.set j (.ts sz [] σ.nx)))::(σ.nx,.tail t true)::σ.mem,σ.nx+1⟩:=by
 refine⟨λκ g a w hst=>?_⟩;have hmem:∀n ob,look n σ.mem=some ob->n<σ.nx/\ob.lt σ.nx=true:=λn ob h=>S.ok_mem hst.ok h;let g':Gh:= {g with has:=λn=>if n=σ.nx then false else g.has n,hi:=λn=>if n=σ.nx then 0 else g.hi n}
 have he:Ext σ.nx g g':=⟨λ_ _ _ h=>h,λ_ _=>rfl,λn hn=>if_neg (by omega),λ_ _=>rfl,λn hn=>if_neg (by omega)⟩;have hi':Inv κ g' σ.mem w:=hst.inv.grow hmem he (zt _) (λ_ _=>rfl) (λb o v h=> .inl h) (λb o v h=>hst.inv.frz b o v h) rfl rfl rfl;have hlook:∀k,look k ((σ.nx,Ob.tail t true)::σ.mem)=if k=σ.nx then some (.tail t true)else look k σ.mem:=λk=>QC _ _ _ _
 have hno:¬On g' ((σ.nx,.tail t true)::σ.mem) σ.nx:=by
  unfold On;rw[hlook,if_pos rfl];show¬(if σ.nx=σ.nx then false else g.has σ.nx)=true;rw[if_pos rfl];simp
 have on:∀k,On g' ((σ.nx,.tail t true)::σ.mem) k->On g' σ.mem k:=λk h=>by
  by_cases hk:k=σ.nx
  ·subst hk;exact(hno h).elim
  ·unfold On at h⊢;rw[hlook,if_neg hk]at h;exact h
 have h1:Inv κ g' ((σ.nx,.tail t true)::σ.mem) w:=by
  refine⟨hi'.frz,λk ob hk=>?_,λk m hkm h h'=>hi'.inj k m hkm (on k h) (on m h'),hi'.size,hi'.pres,λk h=>hi'.own k (on k h),hi'.f0,hi'.fnew,hi'.os,hi'.tape,hi'.output,hi'.dfr⟩;rw[hlook]at hk;by_cases hkk:k=σ.nx
  ·subst hkk;rw[if_pos rfl]at hk;obtain rfl:=za hk;refine⟨λhh=>?_,λ_ _=>if_pos rfl⟩;have:(if σ.nx=σ.nx then false else g.has σ.nx)=true:=hh;rw[if_pos rfl]at this;cases this
  ·rw [if_neg hkk]at hk;exact hi'.obs k ob hk
 obtain⟨hnlt,holt⟩:=hmem n _ hn;have hn1:look n ((σ.nx,Ob.tail t true)::σ.mem)=some (.cells size c):=by rw[hlook,if_neg (by omega)];exact hn
 obtain⟨arr,T,e1,e2,e3,e4,e5,e6⟩:=h1.obs n _ hn1;have hjl:j<c.length:=(z6.1 hc).1;have h2:=h1.redo (o':= .cells size (c.set j (.ts sz [] σ.nx))) hn1 ⟨arr,T,e1,e2,by rw[v8];exact e3,λk hk=>by
   rw[ub];split
   ·rfl
   ·exact e4 k (by simpa using hk),λk hk=>by
   rw[ub];split
   ·rename_i hjk;subst hjk;have h5:=e5 j hjl;rw[show c[j]= .nl sz from(z6.1 hc).2]at h5;generalize arr.getD j undef=u at h5⊢;cases h5;exact .ts0 _ _ _ _ _ rfl (.fs0 _ _ _) (if_pos rfl) (λ_=>⟨rfl,rfl⟩)
   ·exact e5 k (by simpa using hk),e6⟩ (λ_=>by unfold On;rw[hn1];trivial)
 refine⟨g',hst.size,hst.defers,λk v hk=>(hst.sl k v hk).ext he (S.ok_sl hst.ok hk),h2,S.ok_iff.2 ⟨λp hp=>AV.lt_mono ((S.ok_iff.1 hst.ok).1 p hp) (y3 _),λp hp=>?_⟩⟩;rcases zi.1 hp with rfl|hp
 ·refine ⟨wm hnlt,?_⟩;simp only[Ob.lt,ze]at holt⊢;intro x hx;rcases uv hx with hx|rfl
  ·exact AV.lt1_mono (holt x hx) (y3 _)
  ·simp [AV.lt1,AV.lt0]
 ·rcases zi.1 hp with rfl|hp
  ·exact ⟨y6 _,rfl⟩
  ·have:=S.ok_memAll hst.ok p hp;exact⟨wm this.1,Ob.lt_mono this.2 (y3 _)⟩
theorem Wk.nlVx{σ:S}(n j size sz t:Nat)(hn:look n σ.mem=some (.cells size c))(hc:c[j]? =some (.nl sz)):
  Wk N σ ⟨σ.sl,(n,.cells size (c.set j (.vx sz σ.nx 0 0)))::(σ.nx,.vec t sz [] false)::σ.mem,σ.nx+1⟩:=by
 refine⟨λκ g a w hst=>?_⟩;have hmem:∀n ob,look n σ.mem=some ob->n<σ.nx/\ob.lt σ.nx=true:=λn ob h=>S.ok_mem hst.ok h;let g':Gh:= {g with has:=λn=>if n=σ.nx then false else g.has n,hi:=λn=>if n=σ.nx then 0 else g.hi n}
 have he:Ext σ.nx g g':=⟨λ_ _ _ h=>h,λ_ _=>rfl,λn hn=>if_neg (by omega),λ_ _=>rfl,λn hn=>if_neg (by omega)⟩;have hi':Inv κ g' σ.mem w:=hst.inv.grow hmem he (zt _) (λ_ _=>rfl) (λb o v h=> .inl h) (λb o v h=>hst.inv.frz b o v h) rfl rfl rfl;have hlook:∀k,look k ((σ.nx,Ob.vec t sz [] false)::σ.mem)=if k=σ.nx then some (.vec t sz [] false)else look k σ.mem:=λk=>QC _ _ _ _
 have hno:¬On g' ((σ.nx,.vec t sz [] false)::σ.mem) σ.nx:=by
  unfold On;rw[hlook,if_pos rfl];show¬(if σ.nx=σ.nx then false else g.has σ.nx)=true;rw[if_pos rfl];simp
 have on:∀k,On g' ((σ.nx,.vec t sz [] false)::σ.mem) k->On g' σ.mem k:=λk h=>by
  by_cases hk:k=σ.nx
  ·subst hk;exact(hno h).elim
  ·unfold On at h⊢;rw[hlook,if_neg hk]at h;exact h
 have h1:Inv κ g' ((σ.nx,.vec t sz [] false)::σ.mem) w:=by
  refine⟨hi'.frz,λk ob hk=>?_,λk m hkm h h'=>hi'.inj k m hkm (on k h) (on m h'),hi'.size,hi'.pres,λk h=>hi'.own k (on k h),hi'.f0,hi'.fnew,hi'.os,hi'.tape,hi'.output,hi'.dfr⟩;rw[hlook]at hk;by_cases hkk:k=σ.nx
  ·subst hkk;rw[if_pos rfl]at hk;obtain rfl:=za hk;refine⟨(λx hx=>by cases hx),λ_=>rfl,λhh=>?_⟩;have:(if σ.nx=σ.nx then false else g.has σ.nx)=true:=hh;rw[if_pos rfl]at this;cases this
  ·rw [if_neg hkk]at hk;exact hi'.obs k ob hk
 obtain⟨hnlt,holt⟩:=hmem n _ hn;have hn1:look n ((σ.nx,Ob.vec t sz [] false)::σ.mem)=some (.cells size c):=by rw[hlook,if_neg (by omega)];exact hn
 obtain⟨arr,T,e1,e2,e3,e4,e5,e6⟩:=h1.obs n _ hn1;have hjl:j<c.length:=(z6.1 hc).1;have h2:=h1.redo (o':= .cells size (c.set j (.vx sz σ.nx 0 0))) hn1 ⟨arr,T,e1,e2,by rw[v8];exact e3,λk hk=>by
   rw[ub];split
   ·rfl
   ·exact e4 k (by simpa using hk),λk hk=>by
   rw[ub];split
   ·rename_i hjk;subst hjk;have h5:=e5 j hjl;rw[show c[j]= .nl sz from(z6.1 hc).2]at h5;generalize arr.getD j undef=u at h5⊢;cases h5;have hfn:¬(if σ.nx=σ.nx then false else g.has σ.nx)=true:=by rw[if_pos rfl];simp
    exact .vx _ _ _ _ _ _ (zt _) ⟨λhh=>absurd hh hfn,λ_=>⟨rfl,rfl⟩,λh=>absurd h (Nat.lt_irrefl _)⟩
   ·exact e5 k (by simpa using hk),e6⟩ (λ_=>by unfold On;rw[hn1];trivial)
 refine⟨g',hst.size,hst.defers,λk v hk=>(hst.sl k v hk).ext he (S.ok_sl hst.ok hk),h2,S.ok_iff.2 ⟨λp hp=>AV.lt_mono ((S.ok_iff.1 hst.ok).1 p hp) (y3 _),λp hp=>?_⟩⟩;rcases zi.1 hp with rfl|hp
 ·refine ⟨wm hnlt,?_⟩;simp only[Ob.lt,ze]at holt⊢;intro x hx;rcases uv hx with hx|rfl
  ·exact AV.lt1_mono (holt x hx) (y3 _)
  ·simp [AV.lt1,AV.lt0]
 ·rcases zi.1 hp with rfl|hp
  ·exact ⟨y6 _,rfl⟩
  ·have:=S.ok_memAll hst.ok p hp;exact⟨wm this.1,Ob.lt_mono this.2 (y3 _)⟩
def QOg(ops:List Oper):Bool:=
 match ops[QFy 0 ops]? with
 |some o=>match o.op with
  | .alloc _=>QQX ops (QFy 0 ops) o (cut ops)
  |_=>false
 |none=>false
theorem Qi(hti:QU P ti)(hm:P.follows .mixedOrders=true){id:Nat}{σ:S}{K:S->Prop}(hB:QOg ops=true)(hK:QJ5 P ti N ops (QFy 0 ops) (cut ops) σ K):QX P ti N id ops σ K:=QAw hti hm hK
def ObW:Ob->Ob->Prop
 | .frame sz l,.frame sz' l'=>sz=sz'/\ZT l l'
 |u,v=>u=v
def QFz(l:List (Nat×Ob))(k:Nat)(v:Ob):Prop:=
 match look k l with
 |some u=>ObW u v
 |none=>False
def QQY(l:List (Nat×Ob)):List (Nat×Ob)->Prop
 |[]=>True
 |(k,v)::t=>QFz l k v/\QQY l t
theorem JV{l:List (Nat×Ob)}{u v:List (Nat×AV)}(h:look k l=some (.frame sz u))(he:ZT u v):QFz l k (.frame sz v):=by
 unfold QFz;rw[h];exact⟨rfl,he⟩
theorem JW{l:List (Nat×Ob)}{v:Ob}(hn:(match v with| .frame .. =>false|_=>true)=true)(h:look k l=some v):QFz l k v:=by
 unfold QFz;rw[h];cases v<;>first|rfl|cases hn
theorem QQY.look{l m:List (Nat×Ob)}(h:QQY l m){v:Ob}(hk:look k m=some v):∃u,look k l=some u/\ObW u v:=by
 induction m with
 |nil=>cases hk
 |cons p t ih=>
  obtain⟨a,b⟩:=p;rw[QC]at hk;by_cases hka:k=a
  ·subst hka;rw[if_pos rfl]at hk;obtain rfl:=za hk;have:=h.1;unfold QFz at this;cases hl:Sy.look k l with
   |none=>rw[hl]at this;exact this.elim
   |some u=>rw[hl]at this;exact⟨u,rfl,this⟩
  ·rw [if_neg hka]at hk;exact ih h.2 hk
theorem Wk.enF{σ:S}(hs:ZT σ.sl τ.sl)(hm:QQY σ.mem τ.mem)(hok:τ.ok=true):Wk N σ τ:=by
 refine⟨λκ g a w hst=>⟨g,?_⟩⟩;have on:∀n,On g τ.mem n->On g σ.mem n:=λn hn=>by
  unfold On at hn⊢;cases hl:look n τ.mem with
  |none=>rw[hl]at hn;exact hn.elim
  |some ob=>
   rw[hl]at hn;obtain⟨u,hu,hw⟩:=hm.look hl;rw[hu];cases ob with
   |frame=>exact hn.elim
   |_=>cases u<;>first|(cases hw;exact hn)|cases hw
 refine⟨hst.size,hst.defers,λk v hk=>hst.sl k v (hs.look hk),⟨hst.inv.frz,λn ob hn=>?_,λn m hnm h1 h2=>hst.inv.inj n m hnm (on n h1) (on m h2),hst.inv.size,hst.inv.pres,λn hn=>hst.inv.own n (on n hn),hst.inv.f0,hst.inv.fnew,hst.inv.os,hst.inv.tape,hst.inv.output,hst.inv.dfr⟩,hok⟩;obtain⟨u,hu,hw⟩:=hm.look hn;have hob:=hst.inv.obs n u hu;cases ob with
 |frame sz l=>
  cases u with
  |frame sz' l'=>
   obtain⟨rfl,he⟩:=hw;exact⟨hob.1,λs v hs=>hob.2 s v (he.look hs)⟩
  |_=>cases hw
 |_=>cases u<;>first|(cases hw;exact hob)|cases hw
theorem Q7.wk{body:Code}{Q:Exit->S->Prop}{σ:S}(hw:Wk N σ τ)(h:Q7 P N body Q τ):Q7 P N body Q σ:=⟨λκ g a w hr hst=>by
 obtain⟨g',hst'⟩:=hw.run κ g a w hst;exact h.run κ g' a w hr hst'⟩
theorem QX.wk{id:Nat}{σ:S}{K:S->Prop}(hw:Wk N σ τ)(h:QX P ti N id ops τ K):QX P ti N id ops σ K:=⟨λκ g a w hr hst=>by
 obtain⟨g',hst'⟩:=hw.run κ g a w hst;exact h.run κ g' a w hr hst'⟩
def rg:Code->Option (Array Nat×Code×Code)
 | .rangeFunc _ ps asg body=>some (ps,asg,body)
 | .seq a b=>match rg a with|some x=>some x|none=>rg b
 | .cond _ a b=>match rg a with|some x=>some x|none=>rg b
 | .block _ c| .loop c| .scope c=>rg c
 |_=>none
def rgL(k:Nat)(f:Func):Ob:=
 match rg (bd f)with
 |some (ps,asg,body)=> .loop k ps asg body .ready none
 |none=> .frame 0 []
theorem CallI.quiet{o:Oper}{σ:S}{r:AV}{K:S->Prop}(hcall:∀(vs:Array Value) (w:World),(callFunc f vs).run P w= .ok (.enter f vs) w)
  (hC:∀(g:Gh) (w:World) (vs:Array Value),vs.size=l.length->(∀j (h:j<l.length),AVR g l[j] (vs.getD j undef))->Calls P f vs w λe w'=>∃u,e= .returned u/\AVR g r u/\w'=w)
  (hlt:∀m,(∀v∈l,v.lt m=true)->r.lt m=true) (h:K (σ.put o.dst r)):CallI P N o σ f l K:=by
 refine⟨fun⟨⟨x,xs,ats,first,cap,l',hop,hx,hl,hll⟩,hd⟩ κ g a w hst next Q hn=>?_⟩;obtain⟨vs,ws,hev,hsz,hav⟩:=Yr hst hx hl;have hlt':=QK7 hst.ok hx hl;rw[<-hll]at hsz hlt';have hexec:(execOp a.eval o).run P w= .ok (.enter f (vs++xs.map a.eval++ws)) w:=by
  simp only[execOp,hop,resolve,hev,Deferred.ofValue,pure_bind,invoke];exact hcall _ _
 refine YL hexec ((hC g w _ hsz λj hj=>?_).mono λe w' ⟨u,h1,h2,h3⟩=>?_)
 ·have h1:=hav j (by rw[<-hll];exact hj);have e:(first++l'++cap)[j]'(by rw[<-hll];exact hj)=l[j]:=by simp only[<-hll]
  rw[e]at h1;exact h1
 ·subst h3;refine⟨u,h1,hn g _ _ _ h ?_⟩;cases hdst:o.dst with
  |none=>exact hst
  |some d=>exact hst.put (hd d hdst) (.refl _ _) hst.inv h2 (S.ok_cons hst.ok (zt _) (hlt _ hlt') (S.ok_memAll hst.ok))
theorem QQx{vs:Array Value}{v:AV}(hl:l=[v])(hsz:vs.size=l.length)(hav:∀j (h:j<l.length),AVR g l[j] (vs.getD j undef)):∃u,vs= #[u]/\AVR g v u:=by
 subst hl;obtain⟨xs⟩:=vs
 match xs,hsz with
 |[u],_=>exact⟨u,rfl,hav 0 (by simp)⟩
theorem CallI.none0{o:Oper}{σ:S}{len:Nat}{K:S->Prop}(hcall:∀(vs:Array Value) (w:World),(callFunc f vs).run P w= .ok (.enter f vs) w)(hC:∀(p:Option Addr) (cap:Nat) (w:World),Calls P f #[.slice p 0 cap] w λe w'=>e= .returned (.tuple #[])/\w'=w)
  (hl:l=[.vx sz n i len]) (h0:len=0) (h:K (σ.put o.dst (.tup []))):CallI P N o σ f l K:=by
 refine CallI.quiet hcall (λg w vs hsz hav=>?_) (λm _=>rfl) h;obtain⟨u,rfl,hu⟩:=QQx hl hsz hav;cases hu with|vx _ _ _ _ ad c hc had=>?_
 subst h0;exact(hC ad c w).mono λe w' ⟨h1,h2⟩=>⟨_,h1,.tup [] #[] rfl (λj hj=>by cases hj),h2⟩
theorem CallI.same0{o:Oper}{σ:S}{len:Nat}{K:S->Prop}(hcall:∀(vs:Array Value) (w:World),(callFunc f vs).run P w= .ok (.enter f vs) w)(hC:∀(p:Option Addr) (cap:Nat) (w:World),Calls P f #[.slice p 0 cap] w λe w'=>e= .returned (.slice p 0 cap)/\w'=w)
  (hl:l=[.vx sz n i len]) (h0:len=0) (h:K (σ.put o.dst (.vx sz n i len))):CallI P N o σ f l K:=by
 refine CallI.quiet hcall (λg w vs hsz hav=>?_) (λm hm=>hm _ (by rw[hl];exact zo)) h;obtain⟨u,rfl,hu⟩:=QQx hl hsz hav;have hu':=hu;cases hu with|vx _ _ _ _ ad c hc had=>?_
 subst h0;exact(hC ad c w).mono λe w' ⟨h1,h2⟩=>⟨_,h1,hu',h2⟩
theorem CallI.byR{o:Oper}{σ:S}{K:S->Prop}(h:Jj P σ.mem f l λv=>K (σ.put o.dst v)):CallI P N o σ f l K:=by
 refine⟨fun⟨⟨x,xs,ats,first,cap,l',hop,hx,hl,hll⟩,hd⟩ κ g a w hst next Q hn=>?_⟩;obtain⟨vs,ws,hev,hsz,hav⟩:=Yr hst hx hl;rw[<-hll]at hsz;obtain⟨lr,rv,hR,hf,hfl,hK⟩:=h.out;have hexec:(execOp a.eval o).run P w=(callFunc f (vs++xs.map a.eval++ws)).run P w:=by
  simp only[execOp,hop,resolve,hev,Deferred.ofValue,pure_bind,invoke]
 have fin:∀v w',AVR g rv v->Inv κ g σ.mem w'->next (a.put o.dst v) w':=λv w' h2 h3=>by
  refine hn g _ _ _ hK ?_;have hst':St κ N g σ a w':=⟨hst.size,hst.defers,hst.sl,h3,hst.ok⟩;cases hdst:o.dst with
  |none=>exact hst'
  |some d=>exact hst'.put (hd d hdst) (.refl _ _) h3 h2 (S.ok_cons hst'.ok (zt _) (QAN hf.isP _) (S.ok_memAll hst'.ok))
 rcases QFm (vs:=vs++xs.map a.eval++ws) hst.inv (λn ob hl=>S.ok_mem hst.ok hl) hR hf hfl hsz (λj hj=>by
   have h1:=hav j (by rw[<-hll];exact hj);have e:(first++l'++cap)[j]'(by rw[<-hll];exact hj)=l[j]:=by simp only[<-hll]
   rw[e]at h1;exact h1)with⟨hrun,hc⟩|⟨v',w',hrun,hc⟩
 ·exact YL (hexec.trans hrun) (hc.mono λe w' ⟨v,h1,h2,h3⟩=>⟨v,h1,fin v w' h2 h3⟩)
 ·obtain ⟨v,h1,h2,h3⟩:=hc;obtain rfl:v'=v:=by injection h1
  exact Qc (hexec.trans hrun) (fin v' w' h2 h3)
end
theorem QLD{e:Int}{K:Int->Prop}(hK:K e)(h: -9223372036854775808<=e/\e<=9223372036854775807:=by first|omega|(with_unfolding_all exact yg rfl)|(simp only[zu,yq,xv,zb,ZN];omega)):Q0 (IntKind.i64.wrap e) K:=Q0.i64 h hK
theorem QLE{e:Int}{K:Int->Prop}(hK:K e)(h:0<=e/\e<=18446744073709551615:=by omega):Q0 (IntKind.u64.wrap e) K:=Q0.u64 h hK
theorem QQZ{e:Int}{K:Int->Prop}(hK:K e)(h:0<=e/\e<=255:=by omega):Q0 (IntKind.u8.wrap e) K:=Q0.u8 h hK
theorem QQa{a b:Int}{K:Int->Prop}(hK:K (a/b))(h:0<=a/\0<=b/\a<=9223372036854775807:=by omega):Q0 (IntKind.i64.wrap (a.tdiv b)) K:=Q0.i64q h hK
theorem QQb{a b:Int}{K:Int->Prop}(hK:K (a/b))(h:0<=a/\0<=b/\a<=18446744073709551615:=by omega):Q0 (IntKind.u64.wrap (a.tdiv b)) K:=Q0.u64q h hK
theorem QLF{a b:Int}{K:Int->Prop}(hK:K (a % b))(h:0<=a:=by omega):Q0 (a.tmod b) K:=Q0.rem h hK
theorem QQc{α β:Type}{e:α->β}{l:List α}{x:α}{K:β->Prop}(h:K (e x))(hx:l[k]? =some x:=by assumption):
  (0<=(k:Int)/\(k:Int)<(l.map e).length)/\∀c,(l.map e)[(k:Int).toNat]? =some c->K c:=Qk hx h
theorem QQd{α:Type}{l:List α}{x:α}{K:α->Prop}(h:K x)(hx:l[k]? =some x:=by assumption):
  (0<=(k:Int)/\(k:Int)<l.length)/\∀c,l[(k:Int).toNat]? =some c->K c:=QT3 hx h
theorem QLG{α:Type}{l:List α}{n:Int}{x:α}{K:α->Prop}(h:K x)(h0:0<=n/\n<l.length:=by simp only[zb,yq,xv];omega)(hx:l[n.toNat]? =some x:=by with_unfolding_all exact rfl):
  (0<=n/\n<l.length)/\∀c,l[n.toNat]? =some c->K c:=QCh h0 hx h
theorem QOh{β:Type}{e:UInt8->β}{l:List UInt8}{K:β->Prop}(h:∀x,l[k]? =some x->x.toNat<256->K (e x))(h1:k<l.length:=by omega):
  (0<=(k:Int)/\(k:Int)<(l.map e).length)/\∀c,(l.map e)[(k:Int).toNat]? =some c->K c:=QOU h1 h
theorem QSU{l:List UInt8}{K:UInt8->Prop}(h:∀x,l[k]? =some x->x.toNat<256->K x)(h1:k<l.length:=by omega):
  (0<=(k:Int)/\(k:Int)<l.length)/\∀c,l[(k:Int).toNat]? =some c->K c:=QQR h1 h
theorem QSV{l:List UInt8}{n:Int}{K:UInt8->Prop}(h:∀x,l[n.toNat]? =some x->x.toNat<256->K x)(h0:0<=n/\n<l.length:=by omega):
  (0<=n/\n<l.length)/\∀c,l[n.toNat]? =some c->K c:=QSJ h0 h
theorem QSW{α β:Type}{e:α->β}{l:List α}{K:β->Prop}(h:∀x,l[k]? =some x->K (e x))(h1:k<l.length:=by omega):
  (0<=(k:Int)/\(k:Int)<(l.map e).length)/\∀c,(l.map e)[(k:Int).toNat]? =some c->K c:=QGw h1 h
theorem QSX{α β:Type}{e:α->β}{l:List α}{n:Int}{K:β->Prop}(h:∀x,l[n.toNat]? =some x->K (e x))(h0:0<=n/\n<l.length:=by omega):
  (0<=n/\n<(l.map e).length)/\∀c,(l.map e)[n.toNat]? =some c->K c:=QK5 h0 h
theorem g_n{α:Type}{l:List α}{K:α->Prop}(h:∀x,l[k]? =some x->K x)(h1:k<l.length:=by omega):
  (0<=(k:Int)/\(k:Int)<l.length)/\∀c,l[(k:Int).toNat]? =some c->K c:=QJt h1 h
theorem g_b{α:Type}{l:List α}{n:Int}{K:α->Prop}(h:∀x,l[n.toNat]? =some x->K x)(h0:0<=n/\n<l.length:=by omega):
  (0<=n/\n<l.length)/\∀c,l[n.toNat]? =some c->K c:=QT2 h0 h
variable {p A B:Prop}
theorem QOi{q:Prop}(hq:q)(hp:p:=by first|omega|(dsimp only;omega)|(with_unfolding_all exact yg rfl)|(simp only[zu,yq,xv,zb,ZN];omega)):p/\q:=⟨hp,hq⟩
theorem g_c{q:Prop}(hp:p)(h:b=true:=by first|exact rfl|exact(QBZ (by first|omega|(dsimp only;omega)))|exact(ZZ (by first|omega|(dsimp only;omega)))|exact Yj rfl rfl|exact Yj rfl (QBZ (by first|omega|(dsimp only;omega)))|exact Yj rfl (ZZ (by first|omega|(dsimp only;omega)))|exact Yj (QBZ (by first|omega|(dsimp only;omega))) rfl|exact Yj (QBZ (by first|omega|(dsimp only;omega))) (QBZ (by first|omega|(dsimp only;omega)))|exact Yj (QBZ (by first|omega|(dsimp only;omega))) (ZZ (by first|omega|(dsimp only;omega)))|exact Yj (ZZ (by first|omega|(dsimp only;omega))) rfl|exact Yj (ZZ (by first|omega|(dsimp only;omega))) (QBZ (by first|omega|(dsimp only;omega)))|exact Yj (ZZ (by first|omega|(dsimp only;omega))) (ZZ (by first|omega|(dsimp only;omega)))):
  @cond.match_1 (λ_=>Prop) b (λ_=>p) (λ_=>q):=ZY h hp
theorem QJ6{α:Type}{o:Option α}{x:α}{K:α->Prop}(hK:K x)(h:o=some x:=by with_unfolding_all exact rfl):∀c,o=some c->K c:=Yk h hK
theorem QSY(h:A)(hb:b=true:=by decide+kernel):Spl b A B:=Spl.yes hb h
theorem QSZ(h:B)(hb:b=false:=by decide+kernel):Spl b A B:=Spl.no hb h
theorem g_y(h:A)(hb:b=true:=by first|with_reducible assumption|with_unfolding_all exact rfl|exact dtt (by omega)|exact ett (by omega)|exact ntt (by omega)|exact QSK (by with_unfolding_all assumption)|exact QSL (by with_unfolding_all assumption)):Spl b A B:=Spl.yes hb h
theorem g_f(h:B)(hb:b=false:=by first|with_reducible assumption|with_unfolding_all exact rfl|exact dff (by omega)|exact eff (by omega)|exact nff (by omega)|exact QJu (by with_unfolding_all assumption)|exact QSM (by with_unfolding_all assumption)):Spl b A B:=Spl.no hb h
section
variable {P:Program} {ti:Nat->Option Ty} {N:Nat}
end
def AV.ren0(φ:Nat->Nat):AV->AV
 | .ptr n off=> .ptr (φ n) off
 | .ms sz n off len cap=> .ms sz (φ n) off len cap
 | .ts sz es n=> .ts sz es (φ n)
 | .yld n=> .yld (φ n)
 | .mp n=> .mp (φ n)
 | .sd es n=> .sd es (φ n)
 | .vx sz n i len=> .vx sz (φ n) i len
 | .vq sz n k off=> .vq sz (φ n) k off
 |v=>v
def AV.ren1(φ:Nat->Nat):AV->AV
 | .fn f a b=> .fn f (a.map (AV.ren0 φ)) (b.map (AV.ren0 φ))
 |v=>v.ren0 φ
def AV.ren2(φ:Nat->Nat):AV->AV
 | .ag k cs=> .ag k (cs.map (AV.ren1 φ))
 |v=>v.ren1 φ
def AV.ren(φ:Nat->Nat):AV->AV
 | .tup vs=> .tup (vs.map (AV.ren2 φ))
 |v=>v.ren2 φ
def Ob.ren(φ:Nat->Nat):Ob->Ob
 | .cells size c=> .cells size (c.map (AV.ren1 φ))
 | .tag m t=> .tag (φ m) t
 |o=>o
def Ob.pl:Ob->Bool
 | .frame .. | .loop .. =>false
 |_=>true
def Gh.pull(g:Gh)(φ:Nat->Nat):Gh:=⟨g.F,λk=>g.blk (φ k),λk=>g.hi (φ k),λk=>g.cp (φ k),λk=>g.has (φ k)⟩
variable {φ:Nat->Nat}
variable {x r' u:AV}
variable {v v' zv q:Value}
theorem AVR.pull0:AVR g (x.ren0 φ) v->(∀f a b,x≠ .fn f a b)->(∀k cs,x≠ .ag k cs)->(∀vs,x≠ .tup vs)->AVR (g.pull φ) x v:=by
 intro h h1 h2 h3;cases x with
 |d y=>cases h with|d _ _ h=>exact .d _ _ h
 |dg k cs=>cases h with|dg _ _ vs a b c=>exact .dg k cs vs a b c
 |ag k cs=>exact absurd rfl (h2 _ _)
 |tup vs=>exact absurd rfl (h3 _)
 |fn f a b=>exact absurd rfl (h1 _ _ _)
 |ptr n off=>cases h;exact .ptr (g:=g.pull φ) n off
 |ms sz n off len cap=>cases h with|ms _ _ _ _ _ ad had hc=>exact .ms (g:=g.pull φ) sz n off len cap ad had hc
 |ts sz es n=>
  cases h with
  |ts0 _ _ _ a len hl hd hh hz=>exact .ts0 (g:=g.pull φ) sz es n a len hl hd hh hz
  |ts _ _ _ off len cap h0 hn hd hl hc h1 h2 hpos=>exact .ts (g:=g.pull φ) sz es n off len cap h0 hn hd hl hc h1 h2 hpos
 |tg sz es=>cases h with|tg _ _ a len hl hd=>exact .tg sz es a len hl hd
 |nl sz=>cases h;exact .nl sz
 |sd es n=>cases h with|sd _ _ p h=>exact .sd (g:=g.pull φ) es n p h
 |yld n=>cases h;exact .yld (g:=g.pull φ) n
 |mp n=>exact AVR.mpr (g:=g) (n:=φ n) (g':=g.pull φ) (n':=n) rfl rfl h
 |vx sz n i len=>cases h with|vx _ _ _ _ ad c hc had=>exact .vx (g:=g.pull φ) sz n i len ad c hc had
 |vq sz n k off=>cases h with|vq _ _ _ _ h=>exact .vq (g:=g.pull φ) sz n k off h
 |jk=>cases h with|jk _ h=>exact .jk _ h
 |junk=>exact .junk _
theorem AVR.push0(h:AVR (g.pull φ) x v)(h1:∀f a b,x≠ .fn f a b)(h2:∀k cs,x≠ .ag k cs)(h3:∀vs,x≠ .tup vs):AVR g (x.ren0 φ) v:=by
 cases h with
 |d _ _ h=>exact .d _ _ h
 |dg k cs vs a b c=>exact .dg k cs vs a b c
 |ag k cs=>exact absurd rfl (h2 _ _)
 |tup vs=>exact absurd rfl (h3 _)
 |fn f a b=>exact absurd rfl (h1 _ _ _)
 |ptr n off=>exact .ptr (g:=g) (φ n) off
 |ms sz n off len cap ad had hc=>exact .ms (g:=g) sz (φ n) off len cap ad had hc
 |ts0 sz es n a len hl hd hh hz=>exact .ts0 (g:=g) sz es (φ n) a len hl hd hh hz
 |ts sz es n off len cap h0 hn hd hl hc q1 q2 hpos=>exact .ts (g:=g) sz es (φ n) off len cap h0 hn hd hl hc q1 q2 hpos
 |tg sz es a len hl hd=>exact .tg sz es a len hl hd
 |nl sz=>exact .nl sz
 |sd es n p h=>exact .sd (g:=g) es (φ n) p h
 |yld n=>exact .yld (g:=g) (φ n)
 |mp n r h=>exact .mp (g:=g) (φ n) r h
 |vx sz n i len ad c hc had=>exact .vx (g:=g) sz (φ n) i len ad c hc had
 |vq sz n k off h=>exact .vq (g:=g) sz (φ n) k off h
 |jk v h=>exact .jk v h
 |junk v=>exact .junk v
def AV.b0:AV->Bool
 | .fn .. | .ag .. | .tup .. =>false
 |_=>true
theorem QF0(h:x.b0=true):(∀f a b,x≠ .fn f a b)/\(∀k cs,x≠ .ag k cs)/\(∀vs,x≠ .tup vs):=by
 refine⟨?_,?_,?_⟩<;>(intros;intro e;subst e;cases h)
theorem QF1(h:x.lt0 m=true):x.b0=true:=by cases x<;>first|rfl|cases h
theorem AVR.pull1(hl:x.lt1 m=true)(h:AVR g (x.ren1 φ) v):AVR (g.pull φ) x v:=by
 by_cases hx:∃f a b,x= .fn f a b
 ·obtain ⟨f,a,b,rfl⟩:=hx;simp only[AV.lt1,ze,zf]at hl;cases h with
  |fn _ _ _ vs ws h1 h2 h3 h4=>
   simp only[zb]at h1 h2;refine .fn f a b vs ws h1 h2 (λj hj=>?_) λj hj=>?_
   ·have:=h3 j (by rw[zb];exact hj);rw[z1]at this;obtain⟨b1,b2,b3⟩:=QF0 (QF1 (hl.1 _ (zm hj)));exact this.pull0 b1 b2 b3
   ·have:=h4 j (by rw[zb];exact hj);rw[z1]at this;obtain⟨b1,b2,b3⟩:=QF0 (QF1 (hl.2 _ (zm hj)));exact this.pull0 b1 b2 b3
 ·have e:x.ren1 φ=x.ren0 φ:=by cases x<;>first|rfl|exact absurd ⟨_,_,_,rfl⟩ hx
  have hl0:x.lt0 m=true:=by cases x<;>first|exact hl|exact absurd ⟨_,_,_,rfl⟩ hx
  rw[e]at h;obtain⟨b1,b2,b3⟩:=QF0 (QF1 hl0);exact h.pull0 b1 b2 b3
theorem AVR.push1(hl:x.lt1 m=true)(h:AVR (g.pull φ) x v):AVR g (x.ren1 φ) v:=by
 by_cases hx:∃f a b,x= .fn f a b
 ·obtain ⟨f,a,b,rfl⟩:=hx;simp only[AV.lt1,ze,zf]at hl;cases h with
  |fn _ _ _ vs ws h1 h2 h3 h4=>
   refine .fn f _ _ vs ws (by simpa using h1) (by simpa using h2) (λj hj=>?_) λj hj=>?_
   ·simp only[zb]at hj;rw[z1];obtain⟨b1,b2,b3⟩:=QF0 (QF1 (hl.1 _ (zm hj)));exact(h3 j hj).push0 b1 b2 b3
   ·simp only[zb]at hj;rw[z1];obtain⟨b1,b2,b3⟩:=QF0 (QF1 (hl.2 _ (zm hj)));exact(h4 j hj).push0 b1 b2 b3
 ·have e:x.ren1 φ=x.ren0 φ:=by cases x<;>first|rfl|exact absurd ⟨_,_,_,rfl⟩ hx
  have hl0:x.lt0 m=true:=by cases x<;>first|exact hl|exact absurd ⟨_,_,_,rfl⟩ hx
  rw[e];obtain⟨b1,b2,b3⟩:=QF0 (QF1 hl0);exact h.push0 b1 b2 b3
theorem QDg(φ:Nat->Nat)(x:AV):(x.ren1 φ).sc=x.sc:=by cases x<;>rfl
theorem AVR.push2(hl:x.lt2 m=true)(h:AVR (g.pull φ) x v):AVR g (x.ren2 φ) v:=by
 by_cases hx:∃k cs,x= .ag k cs
 ·obtain ⟨k,cs,rfl⟩:=hx;simp only[AV.lt2,ze]at hl;cases h with
  |ag _ _ vs h1 h2 h3 h=>
   refine .ag k _ vs h1 (by simpa using h2) (λj hj=>?_) λj hj=>?_
   ·simp only[zb]at hj;rw[z1,QDg];exact h3 j hj
   ·simp only[zb]at hj;rw[z1];exact(h j hj).push1 (hl _ (zm hj))
 ·have e:x.ren2 φ=x.ren1 φ:=by cases x<;>first|rfl|exact absurd ⟨_,_,rfl⟩ hx
  have hl1:x.lt1 m=true:=by cases x<;>first|exact hl|exact absurd ⟨_,_,rfl⟩ hx
  rw[e];exact h.push1 hl1
theorem AVR.pull2(hl:x.lt2 m=true)(h:AVR g (x.ren2 φ) v):AVR (g.pull φ) x v:=by
 by_cases hx:∃k cs,x= .ag k cs
 ·obtain ⟨k,cs,rfl⟩:=hx;simp only[AV.lt2,ze]at hl;cases h with
  |ag _ _ vs h1 h2 h3 h=>
   simp only[zb]at h2;refine .ag k cs vs h1 h2 (λj hj=>?_) λj hj=>?_
   ·have:=h3 j (by rw[zb];exact hj)
    rwa [z1,QDg]at this
   ·have:=h j (by rw[zb];exact hj);rw[z1]at this;exact this.pull1 (hl _ (zm hj))
 ·have e:x.ren2 φ=x.ren1 φ:=by cases x<;>first|rfl|exact absurd ⟨_,_,rfl⟩ hx
  have hl1:x.lt1 m=true:=by cases x<;>first|exact hl|exact absurd ⟨_,_,rfl⟩ hx
  rw[e]at h;exact h.pull1 hl1
theorem AVR.push(hl:x.lt m=true)(h:AVR (g.pull φ) x v):AVR g (x.ren φ) v:=by
 by_cases hx:∃vs,x= .tup vs
 ·obtain ⟨cs,rfl⟩:=hx;simp only[AV.lt,ze]at hl;cases h with
  |tup _ vs h1 h=>
   refine .tup _ vs (by simpa using h1) λj hj=>?_;simp only[zb]at hj;rw[z1];exact(h j hj).push2 (hl _ (zm hj))
 ·have e:x.ren φ=x.ren2 φ:=by cases x<;>first|rfl|exact absurd ⟨_,rfl⟩ hx
  have hl1:x.lt2 m=true:=by cases x<;>first|exact hl|exact absurd ⟨_,rfl⟩ hx
  rw[e];exact h.push2 hl1
theorem AVR.pull(hl:x.lt m=true)(h:AVR g (x.ren φ) v):AVR (g.pull φ) x v:=by
 by_cases hx:∃vs,x= .tup vs
 ·obtain ⟨cs,rfl⟩:=hx;simp only[AV.lt,ze]at hl;cases h with
  |tup _ vs h1 h=>
   simp only[zb]at h1;refine .tup _ vs h1 λj hj=>?_;have:=h j (by rw[zb];exact hj);rw[z1]at this;exact this.pull2 (hl _ (zm hj))
 ·have e:x.ren φ=x.ren2 φ:=by cases x<;>first|rfl|exact absurd ⟨_,rfl⟩ hx
  have hl1:x.lt2 m=true:=by cases x<;>first|exact hl|exact absurd ⟨_,rfl⟩ hx
  rw[e]at h;exact h.pull2 hl1
variable {ob:Ob}
theorem Zv.pull(hp:ob.pl=true)(hl:ob.lt m=true)(h:Zv κ g w (φ n) (ob.ren φ)):Zv κ' (g.pull φ) w n ob:=by
 cases ob with
 |cells size c=>
  simp only[Ob.lt,ze]at hl;obtain⟨arr,T,e1,e2,e3,e4,e5,e6⟩:=h;rw[zb]at e3;refine⟨arr,T,e1,e2,e3,λj hj=>?_,λj hj=>?_,e6⟩
  ·have:=e4 j (by rw[zb];exact hj)
   rwa [z1,QDg]at this
  ·have:=e5 j (by rw[zb];exact hj);rw[z1]at this;exact this.pull1 (hl _ (zm hj))
 |tail t b=>exact h
 |vec t sz es f=>exact h
 |tag k t=>exact h
 |frame=>cases hp
 |loop=>cases hp
 |mp b ag tp l=>exact h
theorem Zv.push(hp:ob.pl=true)(hl:ob.lt m=true)(h:Zv κ (g.pull φ) w n ob):Zv κ' g w (φ n) (ob.ren φ):=by
 cases ob with
 |cells size c=>
  simp only[Ob.lt,ze]at hl;obtain⟨arr,T,e1,e2,e3,e4,e5,e6⟩:=h;refine⟨arr,T,e1,e2,by rw[zb];exact e3,λj hj=>?_,λj hj=>?_,e6⟩
  ·simp only[zb]at hj;rw[z1,QDg];exact e4 j hj
  ·simp only[zb]at hj;rw[z1];exact(e5 j hj).push1 (hl _ (zm hj))
 |tail t b=>exact h
 |vec t sz es f=>exact h
 |tag k t=>exact h
 |frame=>cases hp
 |loop=>cases hp
 |mp b ag tp l=>exact h
structure QJ7(us:List Nat)(M:Nat)(g g':Gh):Prop where
 F:∀b o v,g.F b o=some v->g'.F b o=some v
 blk:∀n,n<M->n∉us->g'.blk n=g.blk n
 hi:∀n,n<M->n∉us->g'.hi n=g.hi n
 cp:∀n,n<M->n∉us->g'.cp n=g.cp n
 has:∀n,n<M->n∉us->g'.has n=g.has n
def AV.dnL(us:List Nat)(v:AV):AV:=us.foldl (λv n=>v.down n) v
def AV.dnL1(us:List Nat)(v:AV):AV:=us.foldl (λv n=>v.down1 n) v
def QCl:List Nat->List (Nat×AV)->List (Nat×AV)
 |_,[]=>[]
 |us,(k,v)::t=>(k,v.dnL us)::QCl us t
def Gh.mid(g g':Gh)(n:Nat):Gh:=⟨g'.F,λk=>if k=n then g'.blk k else g.blk k,λk=>if k=n then g'.hi k else g.hi k,λk=>if k=n then g'.cp k else g.cp k,λk=>if k=n then g'.has k else g.has k⟩
variable {us ns:List Nat}
theorem QJ7.mid{g':Gh}(h:QJ7 (n::us) M g g'):JU n M g (g.mid g' n)/\QJ7 us M (g.mid g' n) g':=by
 refine⟨⟨h.F,λk _ hk=>if_neg hk,λk _ hk=>if_neg hk,λk _ hk=>if_neg hk,λk _ hk=>if_neg hk⟩,λ_ _ _ h=>h,λk hM hk=>?_,λk hM hk=>?_,λk hM hk=>?_,λk hM hk=>?_⟩;all_goals
  unfold Gh.mid;by_cases hn:k=n
  ·simp only[hn,if_true]
  ·simp only[if_neg hn];first
    |exact h.blk k hM (by simp[hn,hk])
    |exact h.hi k hM (by simp[hn,hk])
    |exact h.cp k hM (by simp[hn,hk])
    |exact h.has k hM (by simp[hn,hk])
theorem AVR.dnL{M:Nat}{g':Gh}{v:Value}:∀ {us:List Nat} {g:Gh} {x:AV},QJ7 us M g g'->x.lt M=true->AVR g x v->AVR g' (x.dnL us) v
 |[],g,x,he,hl,h=>h.ext ⟨he.F,λn hn=>he.blk n hn (by simp),λn hn=>he.hi n hn (by simp),λn hn=>he.cp n hn (by simp),λn hn=>he.has n hn (by simp)⟩ hl
 |n::us,g,x,he,hl,h=>by
  have hm:=he.mid;exact AVR.dnL (us:=us) hm.2 (QIO hl) (h.dn hm.1 hl)
theorem AVR.dnL1{M:Nat}{g':Gh}{v:Value}:∀ {us:List Nat} {g:Gh} {x:AV},QJ7 us M g g'->x.lt1 M=true->AVR g x v->AVR g' (x.dnL1 us) v
 |[],g,x,he,hl,h=>h.ext1 ⟨he.F,λn hn=>he.blk n hn (by simp),λn hn=>he.hi n hn (by simp),λn hn=>he.cp n hn (by simp),λn hn=>he.has n hn (by simp)⟩ hl
 |n::us,g,x,he,hl,h=>by
  have hm:=he.mid;exact AVR.dnL1 (us:=us) hm.2 (QBT hl) (h.dn1 hm.1 hl)
theorem QLH:∀(us:List Nat) (x:AV),(x.dnL1 us).sc=x.sc
 |[],x=>rfl
 |n::us,x=>(QLH us (x.down1 n)).trans (Jk n x)
theorem QJ8:∀ {us:List Nat} {x:AV},x.lt M=true->(x.dnL us).lt M=true
 |[],_,h=>h
 |n::us,x,h=>QJ8 (us:=us) (QIO h)
theorem QLI:∀ {us:List Nat} {x:AV},x.lt1 M=true->(x.dnL1 us).lt1 M=true
 |[],_,h=>h
 |n::us,x,h=>QLI (us:=us) (QBT h)
theorem QCm(us:List Nat)(k:Nat):∀l:List (Nat×AV),look k (QCl us l)=(look k l).map (AV.dnL us)
 |[]=>rfl
 |(a,b)::t=>by
  simp only[QCl,look,QCm us k t];cases Nat.beq k a<;>rfl
theorem QEl{us:List Nat}{p:Nat×AV}:∀ {l:List (Nat×AV)},p∈QCl us l->∃q∈l,p=(q.1,q.2.dnL us)
 |(a,b)::t,h=>by
  simp only[QCl,zi]at h;rcases h with rfl|h
  ·exact ⟨_,zo,rfl⟩
  ·obtain ⟨q,hq,e⟩:=QEl h;exact⟨q,zk _ hq,e⟩
def QIj(ns st:List Nat)(mem:List (Nat×Ob))(m:Nat):Bool:=
 Xf m st||(!Xf m ns&&match look m mem with|some (.cells ..)=>true|_=>false)
def Ob.rest(us ns st:List Nat)(mem:List (Nat×Ob)):Ob->Ob
 | .cells size c=> .cells size (c.map (AV.dnL1 us))
 | .tag m t=>bif QIj ns st mem m then .tag m t else .frame 0 []
 | .frame sz l=> .frame sz (QCl us l)
 |o=>o
def Y7(us ns st:List Nat)(mem:List (Nat×Ob)):List (Nat×Ob)->List (Nat×Ob)
 |[]=>[]
 |(k,o)::t=>(k,o.rest us ns st mem)::Y7 us ns st mem t
theorem QEm(us ns st:List Nat)(mem:List (Nat×Ob))(k:Nat):∀l:List (Nat×Ob),look k (Y7 us ns st mem l)=(look k l).map (Ob.rest us ns st mem)
 |[]=>rfl
 |(a,b)::t=>by
  simp only[Y7,look,QEm us ns st mem k t];cases Nat.beq k a<;>rfl
theorem QF2{us ns st:List Nat}{mem:List (Nat×Ob)}{p:Nat×Ob}:∀ {l:List (Nat×Ob)},p∈Y7 us ns st mem l->∃q∈l,p=(q.1,q.2.rest us ns st mem)
 |(a,b)::t,h=>by
  simp only[Y7,zi]at h;rcases h with rfl|h
  ·exact ⟨_,zo,rfl⟩
  ·obtain ⟨q,hq,e⟩:=QF2 h;exact⟨q,zk _ hq,e⟩
theorem QQe{st:List Nat}{o:Ob}(h:o.lt M=true):(o.rest us ns st mem).lt M=true:=by
 cases o with
 |cells size c=>
  simp only[Ob.lt,Ob.rest,ze,yf]at h⊢;exact λx ⟨y,hy,e⟩=>e▸QLI (h y hy)
 |tag m t=>
  simp only[Ob.rest];cases QIj ns st mem m
  ·rfl
  ·exact h
 |frame sz l=>
  simp only[Ob.lt,Ob.rest,ze]at h⊢;intro p hp;obtain⟨q,hq,rfl⟩:=QEl hp;exact QJ8 (h q hq)
 |tail=>exact h
 |vec=>exact h
 |loop=>exact h
 |mp=>exact h
def J0:List Nat->List (Nat×Ob)
 |[]=>[]
 |k::t=>(k,.frame 0 [])::J0 t
theorem QF3(k:Nat):∀ns:List Nat,look k (J0 ns)=if k∈ns then some (.frame 0 [])else none
 |[]=>by simp[J0,look]
 |a::t=>by
  simp only[J0];rw[QC,QF3 k t];by_cases h:k=a
  ·simp [h]
  ·simp [h]
def YC(φ:Nat->Nat):List (Nat×Ob)->List (Nat×Ob)
 |[]=>[]
 |(k,o)::t=>(φ k,o.ren φ)::YC φ t
theorem QF4{φ:Nat->Nat}{k:Nat}{o:Ob}:∀ {l:List (Nat×Ob)},look k (YC φ l)=some o->∃j p,k=φ j/\(j,p)∈l/\o=p.ren φ
 |[],h=>by cases h
 |(a,b)::t,h=>by
  simp only[YC]at h;rw[QC]at h;by_cases hk:k=φ a
  ·rw [if_pos hk]at h;exact⟨a,b,hk,zo,(za h).symm⟩
  ·rw [if_neg hk]at h;obtain⟨j,p,h1,h2,h3⟩:=QF4 h;exact⟨j,p,h1,zk _ h2,h3⟩
theorem JX(hφ:∀i j,i<M->j<M->φ i=φ j->i=j)(hj:j<M):∀ {l:List (Nat×Ob)},(∀p∈l,p.1<M)->look (φ j) (YC φ l)=(look j l).map (Ob.ren φ)
 |[],_=>rfl
 |(a,b)::t,hl=>by
  simp only[YC];rw[QC,QC,JX hφ hj (λp hp=>hl p (zk _ hp))];by_cases h:j=a
  ·subst h;simp
  ·rw [if_neg h,if_neg (λe=>h (hφ _ _ hj (hl (a,b) zo) e))]
def k0(w:World)(F:Nat->Nat->Option Value):Ctx:=kz w
structure QSa(g:Gh)(w:World)(g':Gh)(w':World)(pre:List (Nat×Ob))(st:List Nat)(post:List (Nat×Ob)):Prop where
 F:∀b o v,g.F b o=some v->g'.F b o=some v
 fnew:∀b o v,g'.F b o=some v->g.F b o=some v\/w.heap.size<=b\/∃k,On g pre k/\b=g.blk k
 frz:∀b o v,g'.F b o=some v->w'.cell? ⟨b,o,none⟩=some v
 obs:∀k ob,look k post=some ob->Zv (k0 w g.F) g' w' k ob
 inj:∀k j,k≠j->On g' post k->On g' post j->g'.blk k≠g'.blk j
 own:∀k,On g' post k->w.heap.size<=g'.blk k\/∃j,On g pre j/\g'.blk k=g.blk j
 stay:∀k∈st,g'.blk k=g.blk k/\g'.hi k=g.hi k/\g'.cp k=g.cp k/\g'.has k=g.has k
 ty:∀k∈st,∀arr T z,w.heap[g.blk k]? =some (.cells arr T z)->∃arr' z',w'.heap[g.blk k]? =some (.cells arr' T z')
 size:w.heap.size<=w'.heap.size
 pres:∀b,b<w.heap.size->(∀k,On g pre k->b≠g.blk k)->w'.heap[b]? =w.heap[b]?
 os:w'.os=w.os
 tape:w'.tape=w.tape
 output:w'.output=w.output
structure FnH(P:Program)(f:Nat)(args:List AV)(pre:List (Nat×Ob))(n:Nat)(st:List Nat)(r:AV)(post:List (Nat×Ob))(m:Nat):Prop where
 a:args.all (AV.lt n)=true
 p:pre.all (λp=>Nat.blt p.1 n&&p.2.lt n&&p.2.pl)=true
 q:post.all (λp=>Nat.blt p.1 m&&p.2.lt m&&p.2.pl)=true
 nm:n<=m
 rl:r.lt m=true
 sn:st.all (λk=>Nat.blt k n)=true
 run:∀(g:Gh) (w:World) (vs:Array Value),(∀b o v,g.F b o=some v->w.cell? ⟨b,o,none⟩=some v)->GOK g.F->(∀k ob,look k pre=some ob->Zv (k0 w g.F) g w k ob)->(∀k j,k≠j->On g pre k->On g pre j->g.blk k≠g.blk j)->
  vs.size=args.length->(∀j (h:j<args.length),AVR g args[j] (vs.getD j undef))->
  QQD P f vs w λe w'=>∃v g',e= .returned v/\AVR g' r v/\QSa g w g' w' pre st post
def QCD:List Nat->Nat->Nat->Option Nat
 |[],_,_=>none
 |a::t,i,q=>if q=a then some i else QCD t (i+1) q
theorem QCn:∀ {ns:List Nat} {i q:Nat},q∉ns->QCD ns i q=none
 |[],_,_,_=>rfl
 |a::t,i,q,h=>by
  simp only[zi,not_or]at h;simp only[QCD];rw[if_neg h.1,QCn h.2]
theorem J1:∀ {ns:List Nat} {i k:Nat},ns.Nodup->k<ns.length->QCD ns i (ns.getD k 0)=some (i+k)
 |a::t,i,0,_,_=>by simp[QCD]
 |a::t,i,k+1,hn,hk=>by
  have hk':k<t.length:=by simpa using hk
  have e:(a::t).getD (k+1) 0=t.getD k 0:=by simp[List.getD]
  have hm:t.getD k 0∈t:=by rw[zr,zj hk'];exact zm hk'
  rw[e];simp only[QCD];have hne:t.getD k 0≠a:=λh=>by
   rw[h]at hm;exact(vo.1 hn).1 hm
  rw[if_neg hne,J1 (vo.1 hn).2 hk'];congr 1;omega
def usL(st:List Nat):Nat->List Nat->List Nat
 |_,[]=>[]
 |i,a::t=>bif Xf i st then usL st (i+1) t else a::usL st (i+1) t
theorem QLJ{st:List Nat}:∀ {i:Nat} {ns:List Nat} {k:Nat},k<ns.length->ns.getD k 0∉usL st i ns->Xf (i+k) st=true
 |i,a::t,0,_,h=>by
  simp only[usL]at h;cases hm:Xf i st with
  |true=>rfl
  |false=>rw[hm]at h;simp at h
 |i,a::t,k+1,hk,h=>by
  have hk':k<t.length:=by simpa using hk
  rw[show i+(k+1)=i+1+k by omega];refine QLJ (ns:=t) hk' λhh=>h ?_;have e:(a::t).getD (k+1) 0=t.getD k 0:=by simp[List.getD]
  rw[e];simp only[usL];cases Xf i st
  ·exact zk _ hh
  ·exact hh
def phi(ns:List Nat)(n nx:Nat)(k:Nat):Nat:=bif Nat.blt k n then ns.getD k 0 else nx+k
def XT(ns:List Nat)(k:Nat):Nat:=ns.getD k 0
theorem QCo(h:k<n):phi ns n nx k=ns.getD k 0:=by unfold phi;rw[show Nat.blt k n=true from by simpa using h];rfl
theorem QCp(h:n<=k):phi ns n nx k=nx+k:=by
 unfold phi;have:Nat.blt k n=false:=by
  cases hb:Nat.blt k n with
  |true=>rw[yc]at hb;omega
  |false=>rfl
 rw[this];rfl
def Gh.after(g gc:Gh)(ns:List Nat)(nx:Nat):Gh:=
  ⟨gc.F,λq=>match QCD ns 0 q with|some k=>gc.blk k|none=>if nx<=q then gc.blk (q-nx)else g.blk q,
   λq=>match QCD ns 0 q with|some k=>gc.hi k|none=>if nx<=q then gc.hi (q-nx)else g.hi q,
   λq=>match QCD ns 0 q with|some k=>gc.cp k|none=>if nx<=q then gc.cp (q-nx)else g.cp q,
   λq=>match QCD ns 0 q with|some k=>gc.has k|none=>if nx<=q then gc.has (q-nx)else g.has q⟩
section
variable {g gc:Gh} {ns:List Nat} {n nx:Nat}
theorem QEn(hn:ns.Nodup)(hl:ns.length=n)(hb:∀q∈ns,q<nx):(g.after gc ns nx).pull (phi ns n nx)=gc:=by
 have key:∀k,(k<n->QCD ns 0 (phi ns n nx k)=some k)/\(n<=k->QCD ns 0 (phi ns n nx k)=none/\nx<=phi ns n nx k/\phi ns n nx k-nx=k):=λk=>by
  refine⟨λh=>?_,λh=>?_⟩
  ·rw [QCo h,J1 hn (by omega)];congr 1;omega
  ·rw [QCp h];exact⟨QCn λhm=>by have:=hb _ hm;omega,by omega,by omega⟩
 have e1:∀(q:Nat->Nat) (r:Nat->Nat) k,(match QCD ns 0 (phi ns n nx k)with|some k=>q k|none=>if nx<=phi ns n nx k then q (phi ns n nx k-nx)else r (phi ns n nx k))=q k:=λq r k=>by
  rcases yj k n with h|h
  ·rw [(key k).1 h]
  ·obtain ⟨a,b,c⟩:=(key k).2 h;rw[a,c];simp only[b,if_true]
 have e2:∀(q:Nat->Bool) (r:Nat->Bool) k,(match QCD ns 0 (phi ns n nx k)with|some k=>q k|none=>if nx<=phi ns n nx k then q (phi ns n nx k-nx)else r (phi ns n nx k))=q k:=λq r k=>by
  rcases yj k n with h|h
  ·rw [(key k).1 h]
  ·obtain ⟨a,b,c⟩:=(key k).2 h;rw[a,c];simp only[b,if_true]
 cases gc with
 |mk F blk hi cp has=>
  unfold Gh.pull Gh.after;congr 1
  ·funext k;exact e1 blk g.blk k
  ·funext k;exact e1 hi g.hi k
  ·funext k;exact e1 cp g.cp k
  ·funext k;exact e2 has g.has k
theorem QAx{q:Nat}(hq:q∉ns)(hx:q<nx):(g.after gc ns nx).blk q=g.blk q/\(g.after gc ns nx).hi q=g.hi q/\(g.after gc ns nx).cp q=g.cp q/\(g.after gc ns nx).has q=g.has q:=by
 have e:=QCn (i:=0) hq;have h:¬nx<=q:=by omega
 simp only[Gh.after,e,if_neg h,and_self]
theorem QIk(hn:ns.Nodup)(hk:k<ns.length):(g.after gc ns nx).blk (ns.getD k 0)=gc.blk k/\(g.after gc ns nx).hi (ns.getD k 0)=gc.hi k/\(g.after gc ns nx).cp (ns.getD k 0)=gc.cp k/\(g.after gc ns nx).has (ns.getD k 0)=gc.has k:=by
 have e:=J1 (i:=0) hn hk;rw[y5]at e;simp only[Gh.after,e,and_self]
end
theorem QG8(h:∀k,k<m->φ k<M)(hx:x.lt0 m=true):(x.ren0 φ).lt0 M=true:=by
 cases x<;>simp only[AV.lt0,AV.ren0,yc]at hx⊢ <;>first|exact h _ hx|trivial
theorem QG9(h:∀k,k<m->φ k<M)(hx:x.lt1 m=true):(x.ren1 φ).lt1 M=true:=by
 by_cases hf:∃f a b,x= .fn f a b
 ·obtain ⟨f,a,b,rfl⟩:=hf;simp only[AV.lt1,AV.ren1,ze,zf,yf]at hx⊢;exact⟨λx ⟨y,hy,e⟩=>e▸QG8 h (hx.1 y hy),λx ⟨y,hy,e⟩=>e▸QG8 h (hx.2 y hy)⟩
 ·have e:x.ren1 φ=x.ren0 φ:=by cases x<;>first|rfl|exact absurd ⟨_,_,_,rfl⟩ hf
  have hl0:x.lt0 m=true:=by cases x<;>first|exact hx|exact absurd ⟨_,_,_,rfl⟩ hf
  have:=QG8 h hl0;rw[e];cases hq:x.ren0 φ<;>rw[hq]at this<;>first|exact this|cases this
theorem QLK(h:∀k,k<m->φ k<M)(hx:x.lt2 m=true):(x.ren2 φ).lt2 M=true:=by
 by_cases hf:∃k cs,x= .ag k cs
 ·obtain ⟨k,cs,rfl⟩:=hf;simp only[AV.lt2,AV.ren2,ze,yf]at hx⊢;exact λx ⟨y,hy,e⟩=>e▸QG9 h (hx y hy)
 ·have e:x.ren2 φ=x.ren1 φ:=by cases x<;>first|rfl|exact absurd ⟨_,_,rfl⟩ hf
  have hl0:x.lt1 m=true:=by cases x<;>first|exact hx|exact absurd ⟨_,_,rfl⟩ hf
  have:=QG9 h hl0;rw[e];cases hq:x.ren1 φ<;>rw[hq]at this<;>first|exact this|cases this
theorem QSb(h:∀k,k<m->φ k<M)(hx:x.lt m=true):(x.ren φ).lt M=true:=by
 by_cases hf:∃vs,x= .tup vs
 ·obtain ⟨vs,rfl⟩:=hf;simp only[AV.lt,AV.ren,ze,yf]at hx⊢;exact λx ⟨y,hy,e⟩=>e▸QLK h (hx y hy)
 ·have e:x.ren φ=x.ren2 φ:=by cases x<;>first|rfl|exact absurd ⟨_,rfl⟩ hf
  have hl0:x.lt2 m=true:=by cases x<;>first|exact hx|exact absurd ⟨_,rfl⟩ hf
  have:=QLK h hl0;rw[e];cases hq:x.ren2 φ<;>rw[hq]at this<;>first|exact this|cases this
theorem QQf(h:∀k,k<m->φ k<M){o:Ob}(hp:o.pl=true)(hx:o.lt m=true):(o.ren φ).lt M=true:=by
 cases o with
 |cells size c=>
  simp only[Ob.lt,Ob.ren,ze,yf]at hx⊢;exact λx ⟨y,hy,e⟩=>e▸QG9 h (hx y hy)
 |tag k t=>
  simp only[Ob.lt,Ob.ren,yc]at hx⊢;exact h _ hx
 |tail=>rfl
 |vec=>rfl
 |frame=>cases hp
 |loop=>cases hp
 |mp=>rfl
theorem Zv.ctx{o:Ob}(hp:o.pl=true)(h:Zv κ g w n o):Zv κ' g w n o:=by
 cases o with
 |frame=>cases hp
 |loop=>cases hp
 |mp=>exact h
 |cells=>exact h
 |tail=>exact h
 |vec=>exact h
 |tag=>exact h
theorem On.cells(hp:∀k ob,look k pre=some ob->ob.pl=true)(ho:∀k ob,look k pre=some ob->Zv κ g w k ob)(h:On g pre k):∃ob,w.heap[g.blk k]? =some ob/\∀l,ob≠ .deferred l:=by
 unfold On at h;cases hl:look k pre with
 |none=>rw[hl]at h;exact h.elim
 |some ob=>
  rw[hl]at h;have hob:=ho k ob hl;have hpl:=hp k ob hl;cases ob with
  |cells=>obtain⟨arr,T,e,_⟩:=hob;exact⟨_,e,λl h=>by cases h⟩
  |tail t b=>obtain⟨arr,T,e,_⟩:=hob.1 h;exact⟨_,e,λl h=>by cases h⟩
  |vec t sz es f=>obtain⟨arr,e,_⟩:=hob.2.2 h;exact⟨_,e,λl h=>by cases h⟩
  |tag=>exact h.elim
  |frame=>exact h.elim
  |loop=>cases hpl
  |mp b ag tp l=>obtain⟨arr,e,_⟩:=hob.2.2 h;exact⟨_,e,λl h=>by cases h⟩
theorem On.ren(hp:∀k ob,look k pre=some ob->ob.pl=true)(hm:∀k ob,look k pre=some ob->look (φ k) mem=some (ob.ren φ))(h:On (g.pull φ) pre k):On g mem (φ k):=by
 unfold On at h⊢;cases hl:look k pre with
 |none=>rw[hl]at h;exact h.elim
 |some ob=>
  rw[hl]at h;rw[hm k ob hl];have hpl:=hp k ob hl;cases ob with
  |cells=>trivial
  |tail=>exact h
  |vec=>exact h
  |tag=>exact h.elim
  |frame=>exact h.elim
  |loop=>cases hpl
  |mp=>exact h
theorem QIl{φ:Nat->Nat}{p:Nat×Ob}:∀ {l:List (Nat×Ob)},p∈YC φ l->∃j q,(j,q)∈l/\p=(φ j,q.ren φ)
 |(a,b)::t,h=>by
  simp only[YC,zi]at h;rcases h with rfl|h
  ·exact ⟨a,b,zo,rfl⟩
  ·obtain ⟨j,q,h1,h2⟩:=QIl h;exact⟨j,q,zk _ h1,h2⟩
theorem QIm{p:Nat×Ob}:∀ {ns:List Nat},p∈J0 ns->∃q∈ns,p=(q,.frame 0 [])
 |a::t,h=>by
  simp only[J0,zi]at h;rcases h with rfl|h
  ·exact ⟨a,zo,rfl⟩
  ·obtain ⟨q,h1,h2⟩:=QIm h;exact⟨q,zk _ h1,h2⟩
section
variable {P:Program} {ti:Nat->Option Ty} {N:Nat}
theorem QJ9{a:Nat}{l:List Nat}(h:Xf a l=false):a∉l:=λhm=>by rw[ZF.2 hm]at h;cases h
theorem Inv.after{gc:Gh}{st:List Nat}(hi:Inv κ g mem w)(hmem:∀k ob,look k mem=some ob->k<nx/\ob.lt nx=true)
  (hn:ns.Nodup) (hl:ns.length=n) (hb:∀q∈ns,q<nx) (hst:∀k∈st,k<n) (hp:∀k ob,look k pre=some ob->k<n/\ob.lt n=true/\ob.pl=true) (hq:∀p∈post,p.1<m/\p.2.lt m=true/\p.2.pl=true) (hnm:n<=m)
  (hpre:∀k ob,look k pre=some ob->look (XT ns k) mem=some (ob.ren (XT ns))) (he:QSa (g.pull (XT ns)) w gc w' pre st post):
  Inv κ (g.after gc ns nx) (YC (phi ns n nx) post++(J0 ns++Y7 (usL st 0 ns) ns (st.map (XT ns)) mem mem)) w'/\QJ7 (usL st 0 ns) nx g (g.after gc ns nx):=by
 let φ:=XT ns
 let φ':=phi ns n nx
 let g':=g.after gc ns nx
 have lt_of:∀ {b:Nat} {x:Obj},w.heap[b]? =some x->b<w.heap.size:=λh=>by
  rcases yj _ w.heap.size with h'|h'
  ·exact h'
  ·rw [xh h']at h;cases h
 have hpull:g'.pull φ'=gc:=QEn hn hl hb;have hmemφ:∀k,k<n->φ k∈ns:=λk hk=>by
  show ns.getD k 0∈ns;rw[zr,zj (by omega)];exact zm _
 have hφinj:∀i j,i<n->j<n->φ i=φ j->i=j:=λi j h1 h2 h=>by
  have e1:=J1 (i:=0) hn (k:=i) (by omega);have e2:=J1 (i:=0) hn (k:=j) (by omega);have h':ns.getD i 0=ns.getD j 0:=h;rw[h',e2]at e1;have:=za e1;omega
 have hφ':∀i j,i<m->j<m->φ' i=φ' j->i=j:=λi j _ _ h=>by
  have h:phi ns n nx i=phi ns n nx j:=h;rcases yj i n with h1|h1<;>rcases yj j n with h2|h2
  ·rw [QCo h1,QCo h2]at h;exact hφinj i j h1 h2 h
  ·rw [QCo h1,QCp h2]at h;have:=hb _ (hmemφ i h1);have:ns.getD i 0<nx:=this;omega
  ·rw [QCp h1,QCo h2]at h;have:ns.getD j 0<nx:=hb _ (hmemφ j h2);omega
  ·rw [QCp h1,QCp h2]at h;omega
 have hpl:∀k ob,look k pre=some ob->ob.pl=true:=λk ob h=>(hp k ob h).2.2;have hobp:∀k ob,look k pre=some ob->Zv (k0 w g.F) (g.pull φ) w k ob:=λk ob h=>(hi.obs _ _ (hpre k ob h)).pull (hp k ob h).2.2 (hp k ob h).2.1;have onp:∀k,On (g.pull φ) pre k->On g mem (φ k)/\k<n:=λk h=>by
  refine⟨On.ren hpl hpre h,?_⟩;unfold On at h;cases hlk:look k pre with
  |none=>rw[hlk]at h;exact h.elim
  |some ob=>exact(hp k ob hlk).1
 have hext:QJ7 (usL st 0 ns) nx g g':=by
  have key:∀q,q<nx->q∉usL st 0 ns->g'.blk q=g.blk q/\g'.hi q=g.hi q/\g'.cp q=g.cp q/\g'.has q=g.has q:=λq hqx hqu=>by
   by_cases hqn:q∈ns
   ·obtain ⟨k,hk,e⟩:=v6 hqn;have e':ns.getD k 0=q:=by rw[zr,zj hk];exact e
    have hs:=QLJ (st:=st) (i:=0) (ns:=ns) (k:=k) hk (by rw[e'];exact hqu);rw[y5]at hs;obtain⟨s1,s2,s3,s4⟩:=he.stay k (ZF.1 hs);obtain⟨a1,a2,a3,a4⟩:=QIk (g:=g) (gc:=gc) (nx:=nx) hn hk;rw[e']at a1 a2 a3 a4;have hq0:XT ns k=q:=e';simp only[Gh.pull,hq0]at s1 s2 s3 s4;exact⟨a1.trans s1,a2.trans s2,a3.trans s3,a4.trans s4⟩
   ·exact QAx hqn hqx
  exact⟨he.F,λq h1 h2=>(key q h1 h2).1,λq h1 h2=>(key q h1 h2).2.1,λq h1 h2=>(key q h1 h2).2.2.1,λq h1 h2=>(key q h1 h2).2.2.2⟩
 -- the blocks that the call does not reach
 have ne:∀q,q∉ns->On g mem q->∀k,On (g.pull φ) pre k->g.blk q≠(g.pull φ).blk k:=λq hqn hon k hk=>by
  obtain⟨h1,h2⟩:=onp k hk;exact hi.inj q (φ k) (λe=>hqn (e▸hmemφ k h2)) hon h1
 have XC:∀b o,b<w.heap.size->(∀k,On (g.pull φ) pre k->b≠(g.pull φ).blk k)->g.F b o=none->gc.F b o=none:=λb o hb hne hnone=>by
  cases hq':gc.F b o with
  |none=>rfl
  |some v=>
   rcases he.fnew _ _ _ hq' with h|h|⟨k,h1,h2⟩
   ·have h:g.F b o=some v:=h;rw[hnone]at h;cases h
   ·omega
   ·exact absurd h2 (hne k h1)
 have hlook:∀q,look q (YC φ' post++(J0 ns++Y7 (usL st 0 ns) ns (st.map φ) mem mem))=match look q (YC φ' post)with|some v=>some v|none=>if q∈ns then some (.frame 0 [])else(look q mem).map (Ob.rest (usL st 0 ns) ns (st.map φ) mem):=λq=>by
  rw[Y6,Y6,QF3,QEm];cases look q (YC φ' post)with
  |some v=>rfl
  |none=>
   by_cases hqn:q∈ns
   ·rw [if_pos hqn,if_pos hqn]
   ·rw [if_neg hqn,if_neg hqn]
 have hpost:∀ {q ob},look q (YC φ' post)=some ob->∃j p,q=φ' j/\j<m/\look j post=some p/\ob=p.ren φ'/\p.lt m=true/\p.pl=true:=fun{q ob} h=>by
  obtain⟨j,p,rfl,hm,e⟩:=QF4 h;have hj:=hq _ hm;have e2:=JX (l:=post) hφ' hj.1 (λp hp=>(hq p hp).1);rw[e2]at h;cases hlp:look j post with
  |none=>rw[hlp]at h;cases h
  |some p'=>
   rw[hlp]at h;have hp':=hq _ (Qb hlp);exact⟨j,p',rfl,hj.1,hlp,(za h).symm,hp'.2.1,hp'.2.2⟩
 -- which names have blocks
 have on:∀q,On g' (YC φ' post++(J0 ns++Y7 (usL st 0 ns) ns (st.map φ) mem mem)) q->(∃j,q=φ' j/\On gc post j/\g'.blk q=gc.blk j)\/(q∉ns/\q<nx/\On g mem q/\g'.blk q=g.blk q):=λq h=>by
  unfold On at h;rw[hlook]at h;cases h1:look q (YC φ' post)with
  |some ob=>
   rw[h1]at h;obtain⟨j,p,rfl,hj,hlp,rfl,_,hppl⟩:=hpost h1;have hbk:g'.blk (φ' j)=gc.blk j:=by rw[<-hpull];rfl
   have hhs:g'.has (φ' j)=gc.has j:=by rw[<-hpull];rfl
   refine .inl ⟨j,rfl,?_,hbk⟩;unfold On;rw[hlp];cases p with
   |cells=>trivial
   |tail=>exact hhs.symm.trans h
   |vec=>exact hhs.symm.trans h
   |tag=>exact h.elim
   |frame=>cases hppl
   |loop=>cases hppl
   |mp=>exact hhs.symm.trans h
  |none=>
   rw[h1]at h;by_cases hqn:q∈ns
   ·simp only[if_pos hqn]at h
   ·simp only[if_neg hqn]at h;cases h2:look q mem with
    |none=>rw[h2]at h;exact h.elim
    |some ob=>
     rw[h2]at h;have hqx:=(hmem q ob h2).1;obtain⟨a1,a2,a3,a4⟩:=QAx (g:=g) (gc:=gc) hqn hqx;refine .inr ⟨hqn,hqx,?_,a1⟩;unfold On;rw[h2];cases ob with
     |cells=>trivial
     |tail=>exact a4.symm.trans h
     |vec=>exact a4.symm.trans h
     |tag k t=>
      simp only[Option.map,Ob.rest]at h;cases hk:QIj ns (st.map φ) mem k<;>rw[hk]at h<;>exact h
     |frame=>exact h
     |loop=>trivial
     |mp=>exact a4.symm.trans h
 have ownp:∀k,On (g.pull φ) pre k->κ.w0.heap.size<=(g.pull φ).blk k\/(g.pull φ).blk k∈κ.mod:=λk hk=>hi.own (φ k) (onp k hk).1;have old_lt:∀q,On g mem q->g.blk q<w.heap.size:=λq h=>hi.blt h;refine⟨⟨he.frz,λq ob h=>?_,λq q' hqq h h'=>?_,xy hi.size he.size,λb hb' hm=>?_,λq h=>?_,λb o v h=>he.F _ _ _ (hi.f0 _ _ _ h),λb o v h=>?_,he.os.trans hi.os,he.tape.trans hi.tape,he.output.trans hi.output,λD hD=>?_⟩,hext⟩
 ·rw [hlook]at h;cases h1:look q (YC φ' post)with
  |some ob'=>
   rw[h1]at h;obtain rfl:=za h;obtain⟨j,p,rfl,hj,hlp,rfl,hlt,hppl⟩:=hpost h1;have:=he.obs j p hlp;rw[<-hpull]at this;exact this.push hppl hlt
  |none=>
   rw[h1]at h;by_cases hqn:q∈ns
   ·simp only[if_pos hqn]at h;obtain rfl:=za h;exact⟨λm hm=>by omega,λs v hs=>by cases hs⟩
   ·simp only[if_neg hqn]at h;cases h2:look q mem with
    |none=>rw[h2]at h;cases h
    |some ob0=>
     rw[h2]at h;obtain rfl:=za h;obtain⟨hqx,hlt⟩:=hmem q ob0 h2;obtain⟨a1,a2,a3,a4⟩:=QAx (g:=g) (gc:=gc) (nx:=nx) hqn hqx;have hob:=hi.obs q ob0 h2;have same:On g mem q->w'.heap[g.blk q]? =w.heap[g.blk q]? :=λhon=>he.pres _ (old_lt q hon) (ne q hqn hon);have noF:On g mem q->∀o,g.F (g.blk q) o=none->gc.F (g.blk q) o=none:=λhon o ho=>XC _ _ (old_lt q hon) (ne q hqn hon) ho;cases ob0 with
     |cells size c=>
      have hon:On g mem q:=by unfold On;rw[h2];trivial
      simp only[Ob.lt,ze]at hlt;obtain⟨arr,T,e1,e2,e3,e4,e5,e6⟩:=hob;refine⟨arr,T,by rw[a1,same hon];exact e1,e2,by rw[zb];exact e3,λj hj=>?_,λj hj=>?_,λo=>by rw[a1];exact noF hon o (e6 o)⟩
      ·simp only[zb]at hj;rw[z1,QLH];exact e4 j hj
      ·simp only[zb]at hj;rw[z1];exact AVR.dnL1 hext (hlt _ (zm hj)) (e5 j hj)
     |tail t b=>
      refine⟨λhh=>?_,λhb hh=>a2.trans (hob.2 hb (a4.symm.trans hh))⟩;have hh':=a4.symm.trans hh;have hon:On g mem q:=by unfold On;rw[h2];exact hh'
      obtain⟨arr,T,e1,e2,e3,e4⟩:=hob.1 hh';exact⟨arr,T,by rw[a1,same hon];exact e1,by rw[a3];exact e2,by rw[a2,a3];exact e3,λo ho=>by rw[a2]at ho;rw[a1];exact noF hon o (e4 o ho)⟩
     |vec t sz es f=>
      refine ZM.mono hob he.F a1 a2 a3 a4 (λhh=>same (by unfold On;rw[h2];exact hh)) λhh o ho=>noF (by unfold On;rw[h2];exact hh) o ho
     |tag k t=>
      simp only[Ob.rest];cases hk:QIj ns (st.map φ) mem k with
      |false=>exact⟨λm hm=>by omega,λs v hs=>by cases hs⟩
      |true=>
       obtain⟨arr,fz,e⟩:=hob;simp only[Ob.lt,yc]at hlt;unfold QIj at hk;rw[wj,zf]at hk;rcases hk with hk|⟨hk1,hk2⟩
       ·have hks:=ZF.1 hk;rw[yf]at hks;obtain⟨j,hj,e0⟩:=hks;subst e0;obtain⟨s1,_⟩:=he.stay j hj;obtain⟨b1,_⟩:=QIk (g:=g) (gc:=gc) (nx:=nx) hn (k:=j) (by have:=hst j hj;omega);have e':g'.blk (φ j)=g.blk (φ j):=(show g'.blk (φ j)=gc.blk j from b1).trans s1;obtain⟨arr',z',e2⟩:=he.ty j hj _ _ _ e;exact⟨arr',z',by rw[e'];exact e2⟩
       ·have hkn:k∉ns:=by
         rw[wx]at hk1;exact QJ9 hk1
        cases h3:look k mem with
        |none=>rw[h3]at hk2;cases hk2
        |some ok=>
         rw[h3]at hk2;cases ok with
         |cells s c=>
          have hon:On g mem k:=by unfold On;rw[h3];trivial
          obtain⟨b1,_⟩:=QAx (g:=g) (gc:=gc) hkn hlt;exact⟨arr,fz,by rw[b1,he.pres _ (old_lt k hon) (ne k hkn hon)];exact e⟩
         |_=>cases hk2
     |frame sz l=>
      simp only[Ob.lt,ze]at hlt;refine⟨hob.1,λs v hs=>?_⟩;rw[QCm]at hs;cases h4:look s l with
      |none=>rw[h4]at hs;cases hs
      |some v0=>
       rw[h4]at hs;obtain rfl:=za hs;exact AVR.dnL hext (hlt _ (Qb h4)) (hob.2 s v0 h4)
     |loop k ps asg body sst pd=>
      have hon:On g mem q:=by unfold On;rw[h2];trivial
      obtain⟨eb,fn,D,e⟩:=hob;exact⟨a1.trans eb,fn,D,by rw[a1,same hon];exact e⟩
     |mp b ag tp l=>
      refine ZQ.mono hob he.F a1 a2 a3 a4 (λhh=>same (by unfold On;rw[h2];exact hh)) λhh o ho=>noF (by unfold On;rw[h2];exact hh) o ho
 ·rcases on q h with⟨j,rfl,o1,b1⟩|⟨n1,x1,o1,b1⟩<;>rcases on q' h' with⟨j',rfl,o2,b2⟩|⟨n2,x2,o2,b2⟩
  ·rw [b1,b2];exact he.inj j j' (λe=>hqq (by rw[e])) o1 o2
  ·rw [b1,b2];rcases he.own j o1 with h3|⟨k,h3,h4⟩
   ·have:=old_lt q' o2;omega
   ·rw [h4];exact(ne q' n2 o2 k h3).symm
  ·rw [b1,b2];rcases he.own j' o2 with h3|⟨k,h3,h4⟩
   ·have:=old_lt q o1;omega
   ·rw [h4];exact ne q n1 o1 k h3
  ·rw [b1,b2];exact hi.inj q q' hqq o1 o2
 ·have:=hi.size;rw[he.pres b (by omega) (λk hk e=>by
   rcases ownp k hk with h|h
   ·have h:κ.w0.heap.size<=(g.pull (XT ns)).blk k:=h;omega
   ·exact hm (e▸h))]
  exact hi.pres b hb' hm
 ·rcases on q h with⟨j,rfl,o1,b1⟩|⟨n1,x1,o1,b1⟩
  ·rw [b1];rcases he.own j o1 with h3|⟨k,h3,h4⟩
   ·have:=hi.size;exact .inl (by omega)
   ·rw [h4];exact ownp k h3
  ·rw [b1];exact hi.own q o1
 ·rcases he.fnew _ _ _ h with h|h|⟨k,h1,h2⟩
  ·exact hi.fnew _ _ _ h
  ·have:=hi.size;exact .inr (.inl (by omega))
  ·rw [h2];exact .inr (ownp k h1)
 ·have e:=hi.dfr D hD;rw[he.pres D (lt_of e) (λk hk h=>by
   obtain⟨ob,e2,nd⟩:=On.cells hpl hobp hk;rw[<-h,e]at e2;exact nd _ (za e2).symm)]
  exact e
def QEo:List AV->List AV->Prop
 |[],[]=>True
 |u::l,v::m=>(u=v\/u.pure1=some v)/\QEo l m
 |_,_=>False
theorem QDB:∀l,QEo l l
 |[]=>trivial
 |_::l=>⟨.inl rfl,QDB l⟩
theorem QCq{g:Gh}:∀ {l m:List AV},QEo l m->l.length=m.length/\∀j (h:j<l.length) (h':j<m.length) (x:Value),AVR g l[j] x->AVR g m[j] x
 |[],[],_=>⟨rfl,λj h=>by cases h⟩
 |u::l,v::m,h=>by
  obtain⟨i1,i2⟩:=QCq (g:=g) h.2;refine⟨by simp[i1],λj hj hj' x hx=>?_⟩;cases j with
  |zero=>
   rcases h.1 with e|e
   ·show AVR g v x;rw[<-e];exact hx
   ·exact Jf e hx
  |succ j=>exact i2 j (by simpa using hj) (by simpa using hj') x hx
 |[],_::_,h=>h.elim
 |_::_,[],h=>h.elim
theorem QKA{o:Oper}{σ:S}{args:List AV}{st:List Nat}{r:AV}{K:S->Prop}(hC:FnH P f args pre n st r post m)(ns:List Nat)
 (hst:St κ N g σ a w) (hf:QQu N o σ f l) (hlA:l.length=args.length)
  (hA0:∀(x:Operand) (xs:Array Operand) (ats:Array TypeId) (vs ws:Array Value),o.op= .call ⟨.value x,xs,ats⟩->a.eval x= .func (.func f) vs ws->∀j (h:j<l.length) (h':j<(args.map (AV.ren (XT ns))).length),AVR g l[j] ((vs++xs.map a.eval++ws).getD j undef)->AVR g (args.map (AV.ren (XT ns)))[j] ((vs++xs.map a.eval++ws).getD j undef))
  (hn:ns.length=n/\ns.Nodup/\ns.all (λq=>Nat.blt q σ.nx)=true) (hpre:ZT σ.mem (YC (XT ns) pre))
  (h:K (S.put ⟨QCl (usL st 0 ns) σ.sl,YC (phi ns n σ.nx) post++(J0 ns++Y7 (usL st 0 ns) ns (st.map (XT ns)) σ.mem σ.mem),σ.nx+m⟩ o.dst (r.ren (phi ns n σ.nx)))) (next:Act->World->Prop) (Q:Exit->Act->World->Prop) (hnext:∀g' σ' a' w',K σ'->St κ N g' σ' a' w'->next a' w'):o.wpIn (wd κ.rd) 0 P a w next Q:=by
 obtain⟨⟨x,xs,ats,first,cap,l',hop,hx,hl,hll⟩,hd⟩:=hf;obtain⟨hln,hnd,hb⟩:=hn;have hb:∀q∈ns,q<σ.nx:=λq hq=>by have:=ze.1 hb q hq;simpa using this
 have ha:∀x∈args,AV.lt n x=true:=λx hx=>ze.1 hC.a x hx;have hP:∀k ob,look k pre=some ob->k<n/\ob.lt n=true/\ob.pl=true:=λk ob h=>by
  have:=ze.1 hC.p _ (Qb h);simp only[zf,yc]at this;exact⟨this.1.1,this.1.2,this.2⟩
 have hQ:∀p∈post,p.1<m/\p.2.lt m=true/\p.2.pl=true:=λp hp=>by
  have:=ze.1 hC.q _ hp;simp only[zf,yc]at this;exact⟨this.1.1,this.1.2,this.2⟩
 have hS:∀k∈st,k<n:=λk hk=>by have:=ze.1 hC.sn k hk;simpa using this
 have hφinj:∀i j,i<n->j<n->XT ns i=XT ns j->i=j:=λi j h1 h2 h=>by
  have e1:=J1 (i:=0) hnd (k:=i) (by omega);have e2:=J1 (i:=0) hnd (k:=j) (by omega);have h':ns.getD i 0=ns.getD j 0:=h;rw[h',e2]at e1;have:=za e1;omega
 have hpre':∀k ob,look k pre=some ob->look (XT ns k) σ.mem=some (ob.ren (XT ns)):=λk ob h=>by
  refine hpre.look ?_;rw[JX (M:=n) hφinj (hP k ob h).1 (λp hp=>by
   have:=ze.1 hC.p _ hp;simp only[zf,yc]at this;exact this.1.1),h];rfl
 obtain⟨vs,ws,hev,hsz,hav⟩:=Yr hst hx hl;rw[<-hll]at hsz;have hexec:(execOp a.eval o).run P w=(callFunc f (vs++xs.map a.eval++ws)).run P w:=by
  simp only[execOp,hop,resolve,hev,Deferred.ofValue,pure_bind,invoke]
 have hmem:∀k ob,look k σ.mem=some ob->k<σ.nx/\ob.lt σ.nx=true:=λk ob h=>S.ok_mem hst.ok h;have fin:∀e w',(∃v gc,e=Ending.returned v/\AVR gc r v/\QSa (g.pull (XT ns)) w gc w' pre st post)->∃v',e= .returned v'/\next (a.put o.dst v') w':=by
  rintro e w' ⟨v,gc,rfl,hv,hE⟩;obtain⟨hi',hext⟩:=hst.inv.after hmem hnd hln hb hS hP hQ hC.nm hpre' hE;have hpull:(g.after gc ns σ.nx).pull (phi ns n σ.nx)=gc:=QEn hnd hln hb;have hv':AVR (g.after gc ns σ.nx) (r.ren (phi ns n σ.nx)) v:=by
   rw[<-hpull]at hv;exact hv.push hC.rl
  have hφlt:∀k,k<m->phi ns n σ.nx k<σ.nx+m:=λk hk=>by
   rcases yj k n with h|h
   ·rw [QCo h];have:ns.getD k 0∈ns:=by rw[zr,zj (by omega)];exact zm _
    have:=hb _ this;omega
   ·rw [QCp h];omega
  have hok:(S.mk (QCl (usL st 0 ns) σ.sl) (YC (phi ns n σ.nx) post++(J0 ns++Y7 (usL st 0 ns) ns (st.map (XT ns)) σ.mem σ.mem)) (σ.nx+m)).ok=true:=by
   rw[S.ok_iff];refine⟨λp hp=>?_,λp hp=>?_⟩
   ·obtain ⟨q,hq,rfl⟩:=QEl hp;exact AV.lt_mono (QJ8 ((S.ok_iff.1 hst.ok).1 q hq)) (ji _ _)
   ·rcases yd.1 hp with hp|hp
    ·obtain ⟨j,p0,hj,rfl⟩:=QIl hp;obtain⟨q1,q2,q3⟩:=hQ _ hj;exact⟨hφlt _ q1,QQf hφlt q3 q2⟩
    ·rcases yd.1 hp with hp|hp
     ·obtain ⟨q,hq,rfl⟩:=QIm hp;exact⟨by have:=hb q hq;show q<σ.nx+m;omega,rfl⟩
     ·obtain ⟨q,hq,rfl⟩:=QF2 hp;obtain⟨q1,q2⟩:=S.ok_memAll hst.ok q hq;exact⟨by show q.1<σ.nx+m;omega,Ob.lt_mono (QQe q2) (ji _ _)⟩
  have hst1:St κ N (g.after gc ns σ.nx) ⟨QCl (usL st 0 ns) σ.sl,YC (phi ns n σ.nx) post++(J0 ns++Y7 (usL st 0 ns) ns (st.map (XT ns)) σ.mem σ.mem),σ.nx+m⟩ a w':=by
   refine⟨hst.size,hst.defers,λk x hk=>?_,hi',hok⟩;rw[QCm]at hk;cases h0:look k σ.sl with
   |none=>rw[h0]at hk;cases hk
   |some v0=>
    rw[h0]at hk;obtain rfl:=za hk;exact AVR.dnL hext (S.ok_sl hst.ok h0) (hst.sl k v0 h0)
  refine⟨v,rfl,hnext (g.after gc ns σ.nx) _ _ _ h ?_⟩;cases hdst:o.dst with
  |none=>exact hst1
  |some d=>exact hst1.put (hd d hdst) (.refl _ _) hi' hv' (S.ok_cons hok (zt _) (QSb hφlt hC.rl) (S.ok_memAll hok))
 rcases hC.run (g.pull (XT ns)) w (vs++xs.map a.eval++ws) hst.inv.frz (κ.gl.mono hst.inv.f0) (λk ob h=>(hst.inv.obs _ _ (hpre' k ob h)).pull (hP k ob h).2.2 (hP k ob h).2.1) (λk j hkj h1 h2=>by
   have pl:∀k ob,look k pre=some ob->ob.pl=true:=λk ob h=>(hP k ob h).2.2;have kn:∀k,On (g.pull (XT ns)) pre k->k<n:=λk h=>by
    unfold On at h;cases hlk:look k pre with
    |none=>rw[hlk]at h;exact h.elim
    |some ob=>exact(hP k ob hlk).1
   exact hst.inv.inj _ _ (λe=>hkj (hφinj _ _ (kn k h1) (kn j h2) e)) (On.ren pl hpre' h1) (On.ren pl hpre' h2)) (by omega) (λj hj=>by
  have hlj:l.length=args.length:=hlA;have h1:=hav j (by rw[<-hll];omega);have e:(first++l'++cap)[j]'(by rw[<-hll];omega)=l[j]'(by omega):=by simp only[<-hll]
  rw[e]at h1;have h2:=hA0 x xs ats vs ws hop hev j (by omega) (by rw[zb];exact hj) h1;rw[z1]at h2;exact h2.pull (ha _ (zm hj)))with⟨hrun,hc⟩|⟨v',w',hrun,hc⟩
 ·exact YL (hexec.trans hrun) (hc.mono λe w' he=>fin e w' he)
 ·obtain ⟨v'',he,hn'⟩:=fin _ _ hc;cases he;exact Qc (hexec.trans hrun) hn'
theorem CallI.byHp{o:Oper}{σ:S}{args:List AV}{st:List Nat}{r:AV}{K:S->Prop}(hC:FnH P f args pre n st r post m)(ns:List Nat)
  (hlA:QEo l (args.map (AV.ren (XT ns)))) (hn:ns.length=n/\ns.Nodup/\ns.all (λq=>Nat.blt q σ.nx)=true) (hpre:ZT σ.mem (YC (XT ns) pre)) (hp':post'=YC (phi ns n σ.nx) post) (hr':r'=r.ren (phi ns n σ.nx))
  (h:K (S.put ⟨QCl (usL st 0 ns) σ.sl,post'++(J0 ns++Y7 (usL st 0 ns) ns (st.map (XT ns)) σ.mem σ.mem),σ.nx+m⟩ o.dst r')):CallI P N o σ f l K:=by
 subst hp' hr';exact⟨λhf κ g a w hst next Q hnext=>QKA hC ns hst hf (by have:=(QCq (g:=g) hlA).1;rwa [zb]at this) (λ_ _ _ _ _ _ _ j h1 h2 hx=>(QCq (g:=g) hlA).2 j h1 h2 _ hx) hn hpre h next Q hnext⟩
theorem CallI.byH{o:Oper}{σ:S}{args:List AV}{st:List Nat}{r:AV}{K:S->Prop}(hC:FnH P f args pre n st r post m)(ns:List Nat)
  (hl:l=args.map (AV.ren (XT ns))) (hn:ns.length=n/\ns.Nodup/\ns.all (λq=>Nat.blt q σ.nx)=true) (hpre:ZT σ.mem (YC (XT ns) pre)) (hp':post'=YC (phi ns n σ.nx) post) (hr':r'=r.ren (phi ns n σ.nx))
  (h:K (S.put ⟨QCl (usL st 0 ns) σ.sl,post'++(J0 ns++Y7 (usL st 0 ns) ns (st.map (XT ns)) σ.mem σ.mem),σ.nx+m⟩ o.dst r')):CallI P N o σ f l K:=by
 subst hl;exact CallI.byHp hC ns (QDB _) hn hpre hp' hr' h
end
def QFE:List Nat->List (Nat×AV)
 |[]=>[]
 |k::t=>(k,.ptr k 0)::QFE t
def QCE(T:Nat->Nat):Nat->List Nat->List (Nat×Ob)
 |_,[]=>[]
 |i,k::t=>(i,.tag k (T k))::QCE T (i+1) t
def Qr(n:Nat)(st:List Nat)(T:Nat->Nat):List (Nat×Ob):=(n,.frame (n+1) (QFE st))::QCE T (n+1) st
def AV.nt0(st:List Nat):AV->Bool
 | .ts _ _ n| .sd _ n| .vx _ n _ _| .vq _ n _ _| .mp n=> !Xf n st
 |_=>true
def AV.nt1(st:List Nat):AV->Bool
 | .fn _ a b=>a.all (AV.nt0 st)&&b.all (AV.nt0 st)
 |v=>v.nt0 st
def AV.nt2(st:List Nat):AV->Bool
 | .ag _ cs=>cs.all (AV.nt1 st)
 |v=>v.nt1 st
def AV.nt(st:List Nat):AV->Bool
 | .tup vs=>vs.all (AV.nt2 st)
 |v=>v.nt2 st
def Ob.nt(st:List Nat)(k:Nat):Ob->Bool
 | .cells _ c=>c.all (AV.nt1 st)
 | .tail .. | .vec .. | .mp .. => !Xf k st
 |_=>true
def Gh.reset(g0 g:Gh)(st:List Nat):Gh:=⟨g.F,g.blk,λk=>bif Xf k st then g0.hi k else g.hi k,λk=>bif Xf k st then g0.cp k else g.cp k,λk=>bif Xf k st then g0.has k else g.has k⟩
section
variable {g0 g:Gh} {st:List Nat}
theorem Z1(h:(!Xf k st)=true):(g0.reset g st).hi k=g.hi k/\(g0.reset g st).cp k=g.cp k/\(g0.reset g st).has k=g.has k:=by
 rw[wx]at h;unfold Gh.reset;simp only[h,cond_false,and_self]
theorem AVR.reset0(hl:x.lt0 m=true)(hn:x.nt0 st=true)(h:AVR g x v):AVR (g0.reset g st) x v:=by
 cases h with
 |d x v h=>exact .d x v h
 |dg k cs vs h1 h2 h=>exact .dg k cs vs h1 h2 h
 |ag=>cases hl
 |tup=>cases hl
 |fn=>cases hl
 |ptr n off=>exact .ptr (g:=g0.reset g st) n off
 |ms sz n off len cap ad had hc=>exact .ms (g:=g0.reset g st) sz n off len cap ad had hc
 |ts0 sz es n a len hl1 hd hh hz=>
  obtain⟨e1,e2,e3⟩:=Z1 (g0:=g0) (g:=g) hn;exact .ts0 (g:=g0.reset g st) sz es n a len hl1 hd (e3.trans hh) λh=>hz (e1.symm.trans h)
 |ts sz es n off len cap h0 hn' hd hl' hc h1 h2 hpos=>
  obtain⟨e1,e2,e3⟩:=Z1 (g0:=g0) (g:=g) hn;exact .ts (g:=g0.reset g st) sz es n off len cap h0 (e3.trans hn') hd hl' hc (h1.trans e1.symm) (h2.trans e2.symm) hpos
 |tg sz es a len hl' hd=>exact .tg sz es a len hl' hd
 |nl sz=>exact .nl sz
 |sd es n p h=>
  obtain⟨e1,e2,e3⟩:=Z1 (g0:=g0) (g:=g) hn;refine .sd (g:=g0.reset g st) es n p λhne=>?_;obtain⟨off,len,cap,k1,k2,k3,k4,k5⟩:=h hne;exact⟨off,len,cap,k1,e3.trans k2,k3,k4,k5.trans e1.symm⟩
 |yld n=>exact .yld (g:=g0.reset g st) n
 |mp n r h=>
  obtain⟨e1,e2,e3⟩:=Z1 (g0:=g0) (g:=g) hn;exact AVR.mpr (g:=g) (n:=n) (g':=g0.reset g st) (n':=n) rfl e3 (.mp n r h)
 |vx sz n i len ad c hc had=>
  obtain⟨e1,e2,e3⟩:=Z1 (g0:=g0) (g:=g) hn;exact .vx (g:=g0.reset g st) sz n i len ad c hc (by unfold QH6;rw[e1,e2,e3];exact had)
 |vq sz n k off h=>
  obtain⟨e1,e2,e3⟩:=Z1 (g0:=g0) (g:=g) hn;have:=AVR.vq (g:=g0.reset g st) sz n k off (e3.trans h);rw[e1]at this;exact this
 |jk v h=>exact .jk v h
 |junk v=>exact .junk v
theorem AVR.reset1(hl:x.lt1 m=true)(hn:x.nt1 st=true)(h:AVR g x v):AVR (g0.reset g st) x v:=by
 by_cases hx:∃f a b,x= .fn f a b
 ·obtain ⟨f,a,b,rfl⟩:=hx;simp only[AV.lt1,AV.nt1,ze,zf]at hl hn;cases h with
  |fn _ _ _ vs ws h1 h2 h3 h4=>exact .fn f a b vs ws h1 h2 (λj hj=>(h3 j hj).reset0 (hl.1 _ (zm hj)) (hn.1 _ (zm hj))) λj hj=>(h4 j hj).reset0 (hl.2 _ (zm hj)) (hn.2 _ (zm hj))
 ·exact h.reset0 (m:=m) (by cases x<;>first|exact hl|exact absurd ⟨_,_,_,rfl⟩ hx) (by cases x<;>first|exact hn|exact absurd ⟨_,_,_,rfl⟩ hx)
theorem AVR.reset2(hl:x.lt2 m=true)(hn:x.nt2 st=true)(h:AVR g x v):AVR (g0.reset g st) x v:=by
 by_cases hx:∃k cs,x= .ag k cs
 ·obtain ⟨k,cs,rfl⟩:=hx;simp only[AV.lt2,AV.nt2,ze]at hl hn;cases h with
  |ag _ _ vs h1 h2 h3 h=>exact .ag k cs vs h1 h2 h3 λj hj=>(h j hj).reset1 (hl _ (zm hj)) (hn _ (zm hj))
 ·exact h.reset1 (m:=m) (by cases x<;>first|exact hl|exact absurd ⟨_,_,rfl⟩ hx) (by cases x<;>first|exact hn|exact absurd ⟨_,_,rfl⟩ hx)
theorem AVR.reset(hl:x.lt m=true)(hn:x.nt st=true)(h:AVR g x v):AVR (g0.reset g st) x v:=by
 by_cases hx:∃vs,x= .tup vs
 ·obtain ⟨cs,rfl⟩:=hx;simp only[AV.lt,AV.nt,ze]at hl hn;cases h with
  |tup _ vs h1 h=>exact .tup cs vs h1 λj hj=>(h j hj).reset2 (hl _ (zm hj)) (hn _ (zm hj))
 ·exact h.reset2 (m:=m) (by cases x<;>first|exact hl|exact absurd ⟨_,rfl⟩ hx) (by cases x<;>first|exact hn|exact absurd ⟨_,rfl⟩ hx)
theorem Zv.reset{o:Ob}(hp:o.pl=true)(hl:o.lt m=true)(hn:o.nt st k=true)(h:Zv κ g w k o):Zv κ' (g0.reset g st) w k o:=by
 cases o with
 |cells size c=>
  simp only[Ob.lt,Ob.nt,ze]at hl hn;obtain⟨arr,T,e1,e2,e3,e4,e5,e6⟩:=h;exact⟨arr,T,e1,e2,e3,e4,λj hj=>(e5 j hj).reset1 (hl _ (zm hj)) (hn _ (zm hj)),e6⟩
 |tail t b=>
  obtain⟨e1,e2,e3⟩:=Z1 (g0:=g0) (g:=g) hn;refine⟨λhh=>?_,λhb hh=>e1.trans (h.2 hb (e3.symm.trans hh))⟩;obtain⟨arr,u,a1,a2,a3,a4⟩:=h.1 (e3.symm.trans hh);exact⟨arr,u,a1,by rw[e2];exact a2,by rw[e1,e2];exact a3,λo ho=>a4 o (by rw[e1]at ho;exact ho)⟩
 |vec t sz es f=>
  obtain⟨e1,e2,e3⟩:=Z1 (g0:=g0) (g:=g) hn;exact ZM.mono h (λ_ _ _ h=>h) rfl e1 e2 e3 (λ_=>rfl) λ_ _ h=>h
 |tag=>exact h
 |frame=>cases hp
 |loop=>cases hp
 |mp b ag tp l=>
  obtain⟨e1,e2,e3⟩:=Z1 (g0:=g0) (g:=g) hn;exact ZQ.mono h (λ_ _ _ h=>h) rfl e1 e2 e3 (λ_=>rfl) λ_ _ h=>h
end
theorem QF5:∀ {st:List Nat} {k:Nat},k∈st->look k (QFE st)=some (.ptr k 0)
 |a::t,k,h=>by
  simp only[QFE];rw[QC];by_cases hk:k=a
  ·rw [if_pos hk,hk]
  ·rw [if_neg hk];exact QF5 (by rcases zi.1 h with h|h<;>first|exact absurd h hk|exact h)
theorem QF6:∀ {st:List Nat} {k:Nat} {v:AV},look k (QFE st)=some v->v= .ptr k 0/\k∈st
 |a::t,k,v,h=>by
  simp only[QFE]at h;rw[QC]at h;by_cases hk:k=a
  ·rw [if_pos hk]at h;exact⟨by rw[<-za h,hk],by rw[hk];exact zo⟩
  ·rw [if_neg hk]at h;obtain⟨h1,h2⟩:=QF6 h;exact⟨h1,zk _ h2⟩
theorem QEp{T:Nat->Nat}:∀ {st:List Nat} {i k:Nat} {o:Ob},look k (QCE T i st)=some o->∃a,a∈st/\o= .tag a (T a)/\i<=k/\k<i+st.length
 |a::t,i,k,o,h=>by
  simp only[QCE]at h;rw[QC]at h;by_cases hk:k=i
  ·rw [if_pos hk]at h;exact⟨a,zo,(za h).symm,by omega,by simp;omega⟩
  ·rw [if_neg hk]at h;obtain⟨b,h1,h2,h3,h4⟩:=QEp h;exact⟨b,zk _ h1,h2,by omega,by simp;omega⟩
theorem QEq{T:Nat->Nat}:∀ {st:List Nat} {i a:Nat},a∈st->∃k,look k (QCE T i st)=some (.tag a (T a))/\i<=k
 |b::t,i,a,h=>by
  by_cases hab:a=b
  ·exact ⟨i,by simp only[QCE];rw[QC,if_pos rfl,hab],zt _⟩
  ·have h':a∈t:=by rcases zi.1 h with h|h<;>first|exact absurd h hab|exact h
   obtain⟨k,h1,h2⟩:=QEq (i:=i+1) h';exact⟨k,by simp only[QCE];rw[QC,if_neg (by omega)];exact h1,by omega⟩
section
variable {P:Program} {ti:Nat->Option Ty} {N:Nat}
def QSc(ti:Nat->Option Ty)(N:Nat)(rs:List ResultVar)(n:Nat)(st:List Nat)(T:Nat->Nat)(r:AV)(post:List (Nat×Ob)):Exit->S->Prop
 | .ret,σ| .normal,σ=>∃τ,Wk N σ τ/\(match Yb ti rs τ with|some l=>Yi l=r|none=>False)/\ZT τ.mem post/\ZT τ.mem (Qr n st T)
 |_,_=>False
theorem Qd{σ:S}{rs:List ResultVar}{st:List Nat}{T:Nat->Nat}{r:AV}(h1:match Yb ti rs σ with|some l=>Yi l=r|none=>False)(h2:ZT σ.mem post)(h3:ZT σ.mem (Qr n st T)):
  ∃τ,Wk N σ τ/\(match Yb ti rs τ with|some l=>Yi l=r|none=>False)/\ZT τ.mem post/\ZT τ.mem (Qr n st T):=⟨σ,⟨λκ g a w hst=>⟨g,hst⟩⟩,h1,h2,h3⟩
theorem QQg{b:Nat}(h:AVR g (.ptr k 0) (.pointer (some ⟨b,0,none⟩))):g.blk k=b:=by
 generalize hv:Value.pointer (some ⟨b,0,none⟩)=v at h;cases h;simpa using hv.symm
def QCF(k:Nat)(pre:List (Nat×Ob)):Bool:=match look k pre with|some (.cells ..)=>true|_=>false
theorem FnH.intro{cd:Code}{args:List AV}{st:List Nat}{r:AV}(hti:QU P ti)(hf:P.funcs[f]? =some fn)(hb:fn.body=some cd)(hN:fn.ntmps=N)(hcall:∀(vs:Array Value) (w:World),(callFunc f vs).run P w= .ok (.enter f vs) w)
  (ha:args.all (AV.lt n)=true) (hp:pre.all (λp=>Nat.blt p.1 n&&p.2.lt n&&p.2.pl)=true) (hq:post.all (λp=>Nat.blt p.1 m&&p.2.lt m&&p.2.pl)=true) (hnm:n<=m) (hrl:r.lt m=true) (hs:st.all (λk=>Nat.blt k n&&QCF k pre)=true)
  (hqt:post.all (λp=>p.2.nt st p.1)=true) (hrt:r.nt st=true) (hlen:Nat.ble args.length N=true)
  (h:∀T,vc P ti N cd (QSc ti N fn.results.toList n st T r post) ⟨idx 0 args,pre++Qr n st T,n+1+st.length⟩):FnH P f args pre n st r post m:=by
 have hS:∀k∈st,k<n/\QCF k pre=true:=λk hk=>by have:=ze.1 hs k hk;simpa using this
 refine⟨ha,hp,hq,hnm,hrl,ze.2 λk hk=>by simpa using(hS k hk).1,λg w vs hfz hG hob hinj hsz hav=> .inl ⟨hcall vs w,?_⟩⟩;have hlen:=yg hlen;have hP:∀k ob,look k pre=some ob->k<n/\ob.lt n=true/\ob.pl=true:=λk ob h=>by
  have:=ze.1 hp _ (Qb h);simp only[zf,yc]at this;exact⟨this.1.1,this.1.2,this.2⟩
 have hQ:∀k ob,look k post=some ob->k<m/\ob.lt m=true/\ob.pl=true/\ob.nt st k=true:=λk ob h=>by
  have h1:=ze.1 hq _ (Qb h);have h2:=ze.1 hqt _ (Qb h);simp only[zf,yc]at h1;exact⟨h1.1.1,h1.1.2,h1.2,h2⟩
 have hst1:∀k∈st,∃arr T,w.heap[g.blk k]? =some (.cells arr T (0,0)):=λk hk=>by
  have hc:=(hS k hk).2;unfold QCF at hc;cases hl:look k pre with
  |none=>rw[hl]at hc;cases hc
  |some ob=>
   rw[hl]at hc;cases ob with
   |cells s c=>obtain⟨arr,T,e,_⟩:=hob k _ hl;exact⟨arr,T,e⟩
   |_=>cases hc
 let T:Nat->Nat:=λk=>match w.heap[g.blk k]? with|some (.cells _ T _)=>T|_=>0
 have hT:∀k∈st,∃arr,w.heap[g.blk k]? =some (.cells arr (T k) (0,0)):=λk hk=>by
  obtain⟨arr,T',e⟩:=hst1 k hk;refine⟨arr,?_⟩;have:T k=T':=by show(match w.heap[g.blk k]? with|some (.cells _ T _)=>T|_=>0)=T';rw[e]
  rw[this];exact e
 obtain⟨L,hL⟩:∃L:List Nat,∀b,b∈L↔∃k,On g pre k/\b=g.blk k:=by
  classical
  refine⟨((pre.map (·.1)).filter (λk=>decide (On g pre k))).map g.blk,λb=>?_⟩;simp only[yf,uc,decide_eq_true_eq];constructor
  ·rintro ⟨k,⟨_,h1⟩,rfl⟩;exact⟨k,h1,rfl⟩
  ·rintro ⟨k,h1,rfl⟩;refine⟨k,⟨?_,h1⟩,rfl⟩;unfold On at h1;cases hl:look k pre with
   |none=>rw[hl]at h1;exact h1.elim
   |some ob=>exact⟨(k,ob),Qb hl,rfl⟩
 let pins:Array Value:=Array.ofFn λk:Fin n=>Value.pointer (some ⟨g.blk k,0,none⟩)
 have hpins:∀k,k<n->pins.getD k undef= .pointer (some ⟨g.blk k,0,none⟩):=λk hk=>by
  have hk':k<pins.size:=by simp[pins,hk]
  rw[Array.getD,dif_pos hk'];show pins[k]=_;simp[pins]
 let κ:Ctx:=⟨w,g.F,L,none,[],[],λ_=>pins,λ_=>0,hG⟩
 let mem0:=pre++Qr n st T
 have hkeep:∀k ob,look k (Qr n st T)=some ob->n<=k/\k<n+1+st.length/\((k=n/\ob= .frame (n+1) (QFE st))\/∃a∈st,ob= .tag a (T a)):=λk ob h=>by
  unfold Qr at h;rw[QC]at h;by_cases hk:k=n
  ·rw [if_pos hk]at h;exact⟨by omega,by omega,.inl ⟨hk,(za h).symm⟩⟩
  ·rw [if_neg hk]at h;obtain⟨a,h1,h2,h3,h4⟩:=QEp h;exact⟨by omega,by omega,.inr ⟨a,h1,h2⟩⟩
 have hlook:∀k ob,look k mem0=some ob->look k pre=some ob\/look k (Qr n st T)=some ob:=λk ob h=>by
  have h:look k (pre++Qr n st T)=some ob:=h;rw[Y6]at h;cases hl:look k pre with
  |some o=>rw[hl]at h;exact .inl h
  |none=>rw[hl]at h;exact .inr h
 have hon:∀k,On g mem0 k->On g pre k:=λk h=>by
  unfold On at h;cases hl:look k mem0 with
  |none=>rw[hl]at h;exact h.elim
  |some ob=>
   rw[hl]at h;rcases hlook k ob hl with h1|h1
   ·unfold On;rw[h1];exact h
   ·obtain ⟨_,_,⟨_,rfl⟩|⟨a,_,rfl⟩⟩:=hkeep k ob h1
    ·exact h.elim
    ·exact h.elim
 have hst:St κ N g ⟨idx 0 args,mem0,n+1+st.length⟩ {tmps:=vs++Array.replicate (fn.ntmps-vs.size) undef,defers:=[]} w:=by
  rw[hN];refine St.args (hi:=⟨hfz,λk ob hk=>?_,λk j hkj h1 h2=>hinj k j hkj (hon k h1) (hon j h2),zt _,λ_ _ _=>rfl,λk hk=> .inr ((hL _).2 ⟨k,hon k hk,rfl⟩),λ_ _ _ h=>h,λ_ _ _ h=> .inl h,rfl,rfl,rfl,λD hD=>by cases hD⟩) rfl hlen hsz hav ?_
  ·rcases hlook k ob hk with h1|h1
   ·exact (hob k ob h1).ctx (hP k ob h1).2.2
   ·obtain ⟨_,_,⟨_,rfl⟩|⟨a,ha',rfl⟩⟩:=hkeep k ob h1
    ·refine ⟨λq hq=>?_,λs v hv=>?_⟩
     ·obtain rfl:q=n:=by omega
      show pins.size=q;simp[pins]
     ·obtain ⟨rfl,hs'⟩:=QF6 hv;show AVR g (.ptr s 0) (pins.getD s undef);rw[hpins s (hS s hs').1];exact .ptr s 0
    ·obtain ⟨arr,e⟩:=hT a ha';exact⟨arr,_,e⟩
  ·rw [S.ok_iff];refine⟨λp hp'=>AV.lt_mono (ze.1 ha _ (QAu _ _ _ hp')) (by show n<=n+1+st.length;omega),λp hp'=>?_⟩;show p.1<n+1+st.length/\p.2.lt (n+1+st.length)=true;have hp':p∈pre++Qr n st T:=hp';rcases yd.1 hp' with h1|h1
   ·have:=ze.1 hp _ h1;simp only[zf,yc]at this;exact⟨by have:=this.1.1;omega,Ob.lt_mono this.1.2 (by omega)⟩
   ·have tg:∀ {l:List Nat} {i:Nat} {p:Nat×Ob},p∈QCE T i l->∃a∈l,p.2= .tag a (T a)/\p.1<i+l.length:=by
     intro l;induction l with
     |nil=>intro i p h;cases h
     |cons b t ih=>
      intro i p h;simp only[QCE,zi]at h;rcases h with rfl|h
      ·exact ⟨b,zo,rfl,by simp⟩
      ·obtain ⟨a,q1,q2,q3⟩:=ih h;exact⟨a,zk _ q1,q2,by simp;omega⟩
    unfold Qr at h1;rcases zi.1 h1 with rfl|h1
    ·refine ⟨by show n<_;omega,?_⟩;simp only[Ob.lt,ze];have pm:∀ {l:List Nat} {p:Nat×AV},p∈QFE l->p.1∈l/\p.2= .ptr p.1 0:=by
      intro l;induction l with
      |nil=>intro p h;cases h
      |cons b t ih=>
       intro p h;simp only[QFE,zi]at h;rcases h with rfl|h
       ·exact ⟨zo,rfl⟩
       ·exact ⟨zk _ (ih h).1,(ih h).2⟩
     intro x hx;obtain⟨q1,q2⟩:=pm hx;rw[q2];have:=(hS _ q1).1;exact QBR (by omega)
    ·obtain ⟨a,q1,q2,q3⟩:=tg h1;rw[q2];have:=(hS _ q1).1;refine⟨by omega,?_⟩;simp only[Ob.lt,yc];omega
 refine YR hti hf hb hN rfl rfl (h T) hst (λe σ hq=>?_) λe g' σ' a' w' hq' hst'=>?_
 ·cases e with
  |ret=>exact .inl rfl
  |normal=>exact .inr rfl
  |_=>exact hq.elim
 ·have hq2:∃τ,Wk N σ' τ/\(match Yb ti fn.results.toList τ with|some l=>Yi l=r|none=>False)/\ZT τ.mem post/\ZT τ.mem (Qr n st T):=by
   cases e with
   |ret=>exact hq'
   |normal=>exact hq'
   |_=>exact hq'.elim
  obtain⟨τ,hwk,hres,hpo,hke⟩:=hq2;obtain⟨g2,hst2⟩:=hwk.run _ _ _ _ hst';cases hl:Yb ti fn.results.toList τ with
  |none=>rw[hl]at hres;exact hres.elim
  |some l=>
   rw[hl]at hres;obtain⟨u,hu,hrun⟩:=QOd hti hst2 hl;rw[hres]at hu;have hi:=hst2.inv;have hfr:=hke.look (k:=n) (v:= .frame (n+1) (QFE st)) (by unfold Qr;rw[QC,if_pos rfl]);have hpin:∀k∈st,g2.blk k=g.blk k:=λk hk=>by
    have h1:=(hi.obs n _ hfr).2 k _ (QF5 hk);have h1:AVR g2 (.ptr k 0) (pins.getD k undef):=h1;rw[hpins k (hS k hk).1]at h1;exact QQg h1
   have hpon:∀k,On (g.reset g2 st) post k->On g2 τ.mem k:=λk h=>by
    unfold On at h⊢;cases hk:look k post with
    |none=>rw[hk]at h;exact h.elim
    |some ob=>
     rw[hk]at h;rw[hpo.look hk];obtain⟨_,_,q3,q4⟩:=hQ k ob hk;cases ob with
     |cells=>trivial
     |tail=>exact(Z1 (g0:=g) (g:=g2) q4).2.2.symm.trans h
     |vec=>exact(Z1 (g0:=g) (g:=g2) q4).2.2.symm.trans h
     |tag=>exact h.elim
     |frame=>exact h.elim
     |loop=>trivial
     |mp=>exact(Z1 (g0:=g) (g:=g2) q4).2.2.symm.trans h
   refine⟨u,hrun,u,g.reset g2 st,rfl,hu.reset hrl hrt,⟨hi.f0,λb o v hv=>?_,hi.frz,λk ob hk=>?_,λk j hkj h1 h2=>hi.inj k j hkj (hpon k h1) (hpon j h2),λk hk=>?_,λk hk=>?_,λk hk arr T' z hw=>?_,hi.size,λb hb' hne=>hi.pres b hb' λhm=>?_,hi.os,hi.tape,hi.output⟩⟩
   ·rcases hi.fnew b o v hv with h|h|h
    ·exact .inl h
    ·exact .inr (.inl h)
    ·exact .inr (.inr ((hL b).1 h))
   ·obtain ⟨_,q2,q3,q4⟩:=hQ k ob hk;exact(hi.obs k ob (hpo.look hk)).reset q3 q2 q4
   ·rcases hi.own k (hpon k hk)with h|h
    ·exact .inl h
    ·obtain ⟨j,h1,h2⟩:=(hL _).1 h;exact .inr ⟨j,h1,h2⟩
   ·have hm:Xf k st=true:=ZF.2 hk;refine⟨hpin k hk,?_,?_,?_⟩<;>(unfold Gh.reset;simp only[hm,cond_true])
   ·obtain ⟨arr0,e0⟩:=hT k hk;rw[e0]at hw;cases hw;obtain⟨i,hi1,hi2⟩:=QEq (T:=T) (i:=n+1) hk;have htg:=hke.look (k:=i) (v:= .tag k (T k)) (by unfold Qr;rw[QC,if_neg (by omega)];exact hi1);obtain⟨arr,fz,e⟩:=hi.obs i _ htg;exact⟨arr,fz,by rw[<-hpin k hk];exact e⟩
   ·obtain ⟨k,h1,h2⟩:=(hL b).1 hm;exact hne k h1 h2
end
variable {y:Operand}
section
variable {P:Program} {ti:Nat->Option Ty} {N:Nat} {σ:S} {o:Oper} {K:S->Prop}
theorem St.cellsPut{cs:Array Value}{T:TypeId}(hst:St κ N g σ a w)(hm:look n σ.mem=some (.cells size c))(e1:w.heap[g.blk n]? =some (.cells arr T (0,0)))(e2:arr.size=size)(e3:c.length=size)
  (e4:∀j (h:j<c.length),c[j].sc=true) (e5:∀j (h:j<c.length),AVR g c[j] (arr.getD j undef)) (q1:cs.size=l.length) (hle:off+l.length<=size) (q3:∀x∈l,x.sc=true) (q4:∀x∈l,x.lt1 σ.nx=true) (q5:∀j (h:j<l.length),AVR g l[j] (cs.getD j undef)):
  St κ N g ⟨σ.sl,(n,.cells size (c.take off++l++c.drop (off+l.length)))::σ.mem,σ.nx⟩ a (w.setRow (g.blk n) (arr.toList.take off++cs.toList++arr.toList.drop (off+cs.size)).toArray):=by
 refine⟨hst.size,hst.defers,hst.sl,hst.inv.write hm e1 (by simp;omega) (by simp;omega) (λj hj=>?_) λj hj=>?_,?_⟩
 ·have:=zm hj;rcases yd.1 this with h|h
  ·rcases yd.1 h with h|h
   ·obtain ⟨j',hj',he⟩:=yy.1 (xg h);rw[<-he];exact e4 _ _
   ·exact q3 _ h
  ·obtain ⟨j',hj',he⟩:=yy.1 (xx h);rw[<-he];exact e4 _ _
 ·have hj':j<size:=by simp only[zu,zy,ym]at hj;omega
  rw[ZC _ _ _ _ (by omega) (by omega)];by_cases h1:j<off
  ·rw [if_neg (by omega),zx (by simp;omega),zx (by simp;omega),xl];exact e5 _ _
  ·by_cases h2:j<off+l.length
   ·rw [if_pos (by omega),zx (by simp;omega),yb (by simp;omega)];have:=q5 (j-off) (by omega);simpa [show min off c.length=off by omega]using this
   ·rw [if_neg (by omega),yb (by simp;omega),xm];have:=e5 j (by omega);have e:off+l.length+(j-(List.take off c++l).length)=j:=by simp;omega
    simpa only[e]using this
 ·rw [S.ok_iff];refine⟨(S.ok_iff.1 hst.ok).1,λp hp=>?_⟩;rcases zi.1 hp with rfl|hp
  ·have h0:=S.ok_mem hst.ok hm;refine⟨h0.1,?_⟩;simp only[Ob.lt,ze]at h0⊢;intro x hx;rcases yd.1 hx with h|h
   ·rcases yd.1 h with h|h
    ·exact h0.2 x (xg h)
    ·exact q4 x h
   ·exact h0.2 x (xx h)
  ·exact S.ok_memAll hst.ok p hp
def zsA:Nat->List D->List AV
 |0,_=>[]
 |k+1,z=>z.map AV.d++zsA k z
theorem QDh(z:List D):∀k,(zsA k z).length=k*z.length
 |0=>by simp[zsA]
 |k+1=>by simp only[zsA];rw[zu,QDh z k,zb,z2];omega
theorem QDi{z:List D}{x:AV}:∀ {k},x∈zsA k z->∃y∈z,x= .d y
 |0,h=>by cases h
 |k+1,h=>by
  simp only[zsA]at h;rcases yd.1 h with h|h
  ·obtain ⟨y,hy,e⟩:=yf.1 h;exact⟨y,hy,e.symm⟩
  ·exact QDi h
theorem QLL{z:List D}(h0:0<z.length):∀ {k:Nat} (j:Nat) (h:j<(zsA k z).length),∃i r,∃(_:i<k) (hr:r<z.length),j=i*z.length+r/\(zsA k z)[j]= .d z[r]
 |0,j,h=>by simp[zsA]at h
 |k+1,j,h=>by
  simp only[zsA];by_cases hj:j<z.length
  ·refine ⟨0,j,by omega,hj,by omega,?_⟩;rw[zx (by simpa using hj),z1]
  ·have h':j-z.length<(zsA k z).length:=by
    rw[QDh]at h⊢;rw[z2]at h;omega
   obtain⟨i,r,hi,hr,e1,e2⟩:=QLL h0 (k:=k) (j-z.length) h';refine⟨i+1,r,by omega,hr,by rw[z2];omega,?_⟩;rw[yb (by simpa using hj)];simp only[zb];exact e2
theorem OpX.clearM{x:Operand}{ats:Array TypeId}{e len cap:Nat}(hti:QU P ti)(hop:o.op= .call ⟨.builtin .clear,#[x],ats⟩)(hno:o.dst=none)(ha:ats[0]? =some t)(ht:ti t=some ty)(hk:ty.kd= .slice e)(he:ti e=some ety)
  (h0:Nat.blt 0 ety.size=true) (hz:Nat.beq ety.zero.length ety.size=true) (hx:ρ σ.sl x=some (.ms sz n off len cap)) (hm:look n σ.mem=some (.cells size c)) (hle:off+len*ety.size<=size) (hcap:0<len->0<cap) (hK:K ⟨σ.sl,(n,.cells size (c.take off++zsA len ety.zero++c.drop (off+len*ety.size)))::σ.mem,σ.nx⟩):OpX P N o σ K:=by
 refine⟨λhd=>?_⟩;have h0:0<ety.size:=by simpa using h0
 have hz:=zh hz;obtain⟨u,inf,ht⟩:=QE (hti _ _ ht);obtain⟨ue,ie,het⟩:=QE (hti _ _ he);have hu:u= .slice e:=by
  have hkd:=ht.kd;rw[hk]at hkd;cases u<;>simp only[XU]at hkd<;>first|(cases hkd;done)|skip
  cases hkd;rfl
 subst hu;intro κ g A w hst next Q hn
 have hxv:=ρ_ok hst.sl hx;generalize hu:A.eval x=q at hxv;cases hxv with|ms _ _ _ _ _ ad had hc=>?_
 have hrun:∀ {r:Result Value},(Builtin.clear_ ats o.type #[.slice ad len cap]).run P w=r->(∀v w',r= .ok v w'->(execOp A.eval o).run P w= .ok (.value v) w'):=λh v w' hr=>by
  rw[QQ hop];simp only[builtin,uo,w8,uw,hu,zp,h,hr,zg,zq]
 obtain⟨arr,T,e1,e2,e3,e4,e5,e6⟩:=hst.inv.obs n _ hm;by_cases h00:len=0
 ·subst h00;have h1:(Builtin.clear_ ats o.type #[.slice ad 0 cap]).run P w= .ok (.tuple #[]) w:=by
   cases ad<;>simp[Builtin.clear_,ha,run_underlying ht.und,Result.andThen]
  refine Qc (hrun h1 _ _ rfl) (hn g _ _ _ hK ?_);rw[hno];have hcc:c.take off++zsA 0 ety.zero++c.drop (off+0*ety.size)=c:=by simp[zsA]
  rw[hcc];refine⟨hst.size,hst.defers,hst.sl,hst.inv.dup hm,?_⟩;rw[S.ok_iff];refine⟨(S.ok_iff.1 hst.ok).1,λp hp=>?_⟩;rcases zi.1 hp with rfl|hp
  ·exact S.ok_mem hst.ok hm
  ·exact S.ok_memAll hst.ok p hp
 ·obtain rfl:=had (hcap (by omega));obtain⟨z,hzv,hLR,hLA⟩:=Zl (g:=g) (z:=ie.zero) (h:=slH P 6 e) (by rw[het.zero];omega);rw[het.zero]at hLR hLA;have hrow:=QEc hLR (by omega) len;have hzs:z.cells.size=ety.size:=hLR.1.symm.trans hz;have hcs:(Builtin.zeroCells z.cells len).size=(zsA len ety.zero).length:=by rw[QDh,hz];simp[Builtin.zeroCells,hzs]
  have hD:∀j (h:j<(zsA len ety.zero).length),AVR g (zsA len ety.zero)[j] ((Builtin.zeroCells z.cells len).getD j undef):=λj hj=>by
   obtain⟨i,r,hi,hr,rfl,e⟩:=QLL (by omega) j hj;rw[e];have:=hrow.2 i (by simpa using hi) r (by simpa using hr);simp only[W0]at this;exact .d _ _ this
  have hone:∀v∈(Builtin.zeroCells z.cells len).toList,v.oneCell'=true:=λv hv=>by
   obtain⟨j,hj,rfl⟩:=yy.1 hv;have hj':j<(zsA len ety.zero).length:=by simp at hj;omega
   have h1:=hD j hj';have hsc:(zsA len ety.zero)[j].sc=true:=by
    obtain⟨y,_,e⟩:=QDi (zm hj');rw[e];rfl
   have:=h1.one hsc;simpa [Array.getD,show j<(Builtin.zeroCells z.cells len).size by simpa using hj]using this
  have hl:(zsA len ety.zero).length=len*ety.size:=by rw[QDh,hz]
  have hst':=run_storeCells_at P (g.blk n) off T (Builtin.zeroCells z.cells len).toList 0 arr w e1 (by simp;omega) hone;have h3:(Builtin.clear_ ats o.type #[.slice (some ⟨g.blk n,off,none⟩) len cap]).run P w= .ok (.tuple #[]) (w.setRow (g.blk n) (arr.toList.take off++(Builtin.zeroCells z.cells len).toList++arr.toList.drop (off+(Builtin.zeroCells z.cells len).size)).toArray):=by
   have hzr:∀w,(zeroValue e).run P w= .ok z w:=λw=>by simp[zeroValue,ZE het.info,hzv,Result.andThen]
   simp only[x6,wq]at hst';obtain⟨m,rfl⟩:∃m,len=m+1:=⟨len-1,by omega⟩;simp[Builtin.clear_,ha,run_underlying ht.und,hzr,hst',Result.andThen]
  refine Qc (hrun h3 _ _ rfl) (hn g _ _ _ hK ?_);rw[hno,<-hl];exact hst.cellsPut hm e1 e2 e3 e4 e5 hcs (by omega) (λx hx=>by obtain⟨y,_,rfl⟩:=QDi hx;rfl) (λx hx=>by obtain⟨y,_,rfl⟩:=QDi hx;rfl) hD
theorem OpX.storeF{tt q:Nat}{x:Operand}{v:AV}{l c:List D}{es es2:List (List D)}(hti:QU P ti)(hop:o.op= .store t x y)(hno:o.dst=none)(ht:ti t=some ty)(hx:ρ σ.sl x=some (.vq sz n k off))(hy:ρ σ.sl y=some v)(hm:look n σ.mem=some (.vec tt sz es fl))
  (hc:XM v=some (q,l')) (hl:allD l'=some l) (hsz:Nat.beq ty.size q=true) (h0:Nat.blt 0 q=true) (hle:Nat.ble (off+q) sz=true) (hk:es[k]? =some c) (hes:es2=es.take k++[c.take off++l++c.drop (off+q)]++es.drop (k+1)) (hK:K ⟨σ.sl,(n,.vec tt sz es2 fl)::σ.mem,σ.nx⟩):OpX P N o σ K:=by
 refine⟨λ_=>?_⟩;subst hes;have hsz:=zh hsz;have h0:0<q:=by simpa using h0
 have hle:=yg hle;obtain⟨u,i,ht⟩:=QE (hti _ _ ht);intro κ g a w hst next Q hn
 obtain⟨q1,q2,q3,q4,q5⟩:=Ji hc (ρ_ok hst.sl hy) (ρ_lt hst.ok hy);obtain rfl:=QAj hl;simp only[zb]at q2 q3 q5;have hx':=ρ_ok hst.sl hx;generalize ha:a.eval x=p at hx';cases hx' with|vq _ _ _ _ hh=>?_
 have hdup:=hst.inv.dup hm;obtain⟨hkl,hkc⟩:=z6.1 hk;obtain⟨v1,v2,v3⟩:=(hst.inv.obs n _ hm);obtain⟨arr,e1,e2,e3,e4,e5,e6,e7⟩:=v3 hh;have hcl:c.length=sz:=by rw[<-hkc];exact v1 _ (zm hkl)
 have hb:(k+1)*sz<=g.cp n:=xy (zw _ hkl) e3;rw[z2,j9]at hb;have hone:∀v∈(a.eval y).cells.toList,v.oneCell'=true:=λv hv=>by
  obtain⟨j,hj,rfl⟩:=yy.1 hv;have hj':j<l.length:=by simp at hj;omega
  have:=q5 j hj';simp only[z1]at this;have:=this.one rfl;simpa [Array.getD,show j<(a.eval y).cells.size by simpa using hj]using this
 have hst':=run_storeCells_at P (g.blk n) (g.hi n+k*sz+off) tt (a.eval y).cells.toList 0 arr w e1 (by simp;omega) hone;simp only[x6,wq]at hst';have hr:(execOp a.eval o).run P w= .ok .skip (w.setRow (g.blk n) (arr.toList.take (g.hi n+k*sz+off)++(a.eval y).cells.toList++arr.toList.drop (g.hi n+k*sz+off+(a.eval y).cells.size)).toArray):=by
  simp only[execOp,hop,ha,Instr.storeAt,Instr.sureAddr,storeVar,zp,zq,zg,QV ht.info,ht.size,ww];rw[if_neg (by omega),hst'];rfl
 refine Yx hr (hn g _ _ _ hK ?_);rw[hno];have hnl:(c.take off++l++c.drop (off+q)).length=sz:=by simp;omega
 have hlen2:(es.take k++[c.take off++l++c.drop (off+q)]++es.drop (k+1)).length=es.length:=by simp;omega
 refine hst.vecPut hm (hdup.vecWrite hh e1 (by simp;omega) (λz hz=>?_) (by rw[hlen2];exact e3) (λq' hq' j hj=>?_) (λhf=>by rw[hlen2];exact e6 hf) λj hj=>?_)
 ·rcases yd.1 hz with h|h
  ·rcases yd.1 h with h|h
   ·exact v1 _ (xg h)
   ·rw [yr.1 h];exact hnl
  ·exact v1 _ (xx h)
 ·have hq2:q'<es.length:=by rw[<-hlen2];exact hq'
  have hmq:q'*sz+sz<=es.length*sz:=by
   have:(q'+1)*sz<=es.length*sz:=zw _ (by omega);rw[z2]at this;omega
  by_cases hqk:q'=k
  ·subst hqk;have hge:(es.take q'++[c.take off++l++c.drop (off+q)]++es.drop (q'+1))[q']=c.take off++l++c.drop (off+q):=by
    rw[zx (by simp;omega),yb (by simp;omega)];simp[show min q' es.length=q' by omega]
   have hj':j<sz:=by rw[hge,hnl]at hj;exact hj
   rw[ZC _ _ _ _ (by omega) (by omega)];by_cases h1:j<off
   ·rw [if_neg (by omega)];have:=e4 q' hq2 j (by rw[hkc,hcl];exact hj');have e:(es.take q'++[c.take off++l++c.drop (off+q)]++es.drop (q'+1))[q'][j]=es[q'][j]'(by rw[hkc,hcl];exact hj'):=by
     simp only[hge,hkc];rw[zx (by simp;omega),zx (by simp;omega),xl]
    rw[e];exact this
   ·by_cases h2:j<off+q
    ·rw [if_pos (by omega)];have e:(es.take q'++[c.take off++l++c.drop (off+q)]++es.drop (q'+1))[q'][j]=l[j-off]'(by omega):=by
      simp only[hge];rw[zx (by simp;omega),yb (by simp;omega)];simp[show min off c.length=off by omega]
     rw[e];have:=q5 (j-off) (by omega);simp only[z1]at this;rw[show g.hi n+q'*sz+j-(g.hi n+q'*sz+off)=j-off by omega];cases this with|d _ _ h=>exact h
    ·rw [if_neg (by omega)];have:=e4 q' hq2 j (by rw[hkc,hcl];exact hj');have e:(es.take q'++[c.take off++l++c.drop (off+q)]++es.drop (q'+1))[q'][j]=es[q'][j]'(by rw[hkc,hcl];exact hj'):=by
      simp only[hge,hkc];rw[yb (by simp;omega),xm];have:off+q+(j-(List.take off c++l).length)=j:=by simp;omega
      simp only[this]
     rw[e];exact this
  ·have hge:(es.take k++[c.take off++l++c.drop (off+q)]++es.drop (k+1))[q']=es[q']:=by
    by_cases h1:q'<k
    ·rw [zx (by simp;omega),zx (by simp;omega),xl]
    ·rw [yb (by simp;omega),xm];have:k+1+(q'-(es.take k++[c.take off++l++c.drop (off+q)]).length)=q':=by simp;omega
     simp only[this]
   have hj':j<sz:=by
    have:(es.take k++[c.take off++l++c.drop (off+q)]++es.drop (k+1))[q'].length=sz:=by rw[hge];exact v1 _ (zm hq2)
    omega
   have:=e4 q' hq2 j (by rw[<-hge];exact hj);rw[ZC _ _ _ _ (by omega) (by omega),if_neg (by
    rcases Nat.lt_or_gt_of_ne hqk with h|h
    ·have:(q'+1)*sz<=k*sz:=zw _ h;rw[z2]at this;omega
    ·have:(k+1)*sz<=q'*sz:=zw _ h;rw[z2]at this;omega)]
   simpa only[hge]using this
 ·rw [ZC _ _ _ _ (by omega) (by omega)];by_cases hin:g.hi n+k*sz+off<=g.hi n+j/\g.hi n+j<g.hi n+k*sz+off+(a.eval y).cells.size
  ·rw [if_pos hin];have hq:g.hi n+j-(g.hi n+k*sz+off)<(a.eval y).cells.size:=by omega
   rw[Array.getD,dif_pos hq];exact hone _ (by simp)
  ·rw [if_neg hin];exact e7 j hj
end
variable {P:Program} {ti:Nat->Option Ty} {N:Nat} {σ:S} {o:Oper} {K:S->Prop}
theorem Zz.wk(hw:Wk N σ τ)(h:Zz P N o τ K):Zz P N o σ K:=λκ g a w hst next Q hn=>by
 obtain⟨g',h'⟩:=hw.run κ g a w hst;exact h κ g' a w h' next Q hn
theorem CallI.wk(hw:Wk N σ τ)(hc:∃x args ats first cap l2,o.op= .call ⟨.value x,args,ats⟩/\ρ τ.sl x=some (.fn (.func f) first cap)/\Xy (ρ τ.sl) args.toList=some l2/\l'=first++l2++cap)(h:CallI P N o τ f l' K):CallI P N o σ f l K:=
 ⟨λhf=>Zz.wk hw (h.run ⟨hc,hf.dst⟩)⟩
def MsV(n size:Nat)(c:List AV)(u v:AV):Prop:=u=v\/∃sz off len cap es,u= .ms sz n off len cap/\v= .d (.fs sz es)/\off+len*sz<=size/\es.length=len/\(∀x∈es,x.length=sz)/\(c.drop off).take (len*sz)=es.flatten.map AV.d
def MsL(n size:Nat)(c:List AV)(sl:List (Nat×AV)):List (Nat×AV)->Prop
 |[]=>True
 |(k,v)::t=>(∃u,look k sl=some u/\MsV n size c u v)/\MsL n size c sl t
theorem MsL.at{n size:Nat}{c:List AV}{sl:List (Nat×AV)}:∀ {l:List (Nat×AV)},MsL n size c sl l->∀k v,look k l=some v->∃u,look k sl=some u/\MsV n size c u v
 |(a,b)::t,h,k,v,hk=>by
  rw[QC]at hk;by_cases hka:k=a
  ·subst hka;rw[if_pos rfl]at hk;obtain rfl:=za hk;exact h.1
  ·rw [if_neg hka]at hk;exact MsL.at h.2 k v hk
def MsM(n:Nat)(mem:List (Nat×Ob)):List (Nat×Ob)->Prop
 |[]=>True
 |(k,v)::t=>((!Nat.beq k n)=true/\look k mem=some v)/\MsM n mem t
theorem MsM.at{n:Nat}{mem:List (Nat×Ob)}:∀ {l:List (Nat×Ob)},MsM n mem l->∀k v,look k l=some v->k≠n/\look k mem=some v
 |(a,b)::t,h,k,v,hk=>by
  rw[QC]at hk;by_cases hka:k=a
  ·subst hka;rw[if_pos rfl]at hk;obtain rfl:=za hk;refine⟨λe=>?_,h.1.2⟩;have:=h.1.1;rw[e,wc]at this;cases this
  ·rw [if_neg hka]at hk;exact MsM.at h.2 k v hk
variable {P:Program} {ti:Nat->Option Ty} {N:Nat} {σ:S} {o:Oper} {K:S->Prop}
variable {P:Program} {ti:Nat->Option Ty} {N:Nat} {σ:S} {o:Oper} {K:S->Prop}
def MpV(n size:Nat)(c:List AV)(u v:AV):Prop:=u=v\/∃ds:List D,u= .ptr n 0/\v= .d (.fp size ds)/\c=ds.map AV.d
theorem Wk.frzP(hm:look n σ.mem=some (.cells size c))(hs:∀k v,look k τ.sl=some v->∃u,look k σ.sl=some u/\MpV n size c u v)
  (hmem:∀k ob,look k τ.mem=some ob->k≠n/\look k σ.mem=some ob) (hok:τ.ok=true):Wk N σ τ:=by
 refine⟨λκ g a w hst=>?_⟩;obtain⟨arr,T,e1,e2,e3,e4,e5,e6⟩:=hst.inv.obs n _ hm;have hon:On g σ.mem n:=by unfold On;rw[hm];trivial
 have f1:∀b o x,g.F b o=some x->ZL g n size arr b o=some x:=λb o x hx=>by
  unfold ZL;by_cases hb:b=g.blk n
  ·subst hb;rw[e6]at hx;cases hx
  ·rw [if_neg hb];exact hx
 have f4:∀b o,b≠g.blk n->g.F b o=none->ZL g n size arr b o=none:=λb o hb hx=>by unfold ZL;rw[if_neg hb];exact hx
 have hE:∀M,Ext M g {g with F:=ZL g n size arr}:=λM=>⟨f1,λ_ _=>rfl,λ_ _=>rfl,λ_ _=>rfl,λ_ _=>rfl⟩;have on:∀k,On {g with F:=ZL g n size arr} τ.mem k->k≠n/\On g σ.mem k:=λk h=>by
  unfold On at h⊢;cases hl:look k τ.mem with
  |none=>rw[hl]at h;exact h.elim
  |some ob=>
   rw[hl]at h;obtain⟨h1,h2⟩:=hmem k ob hl;rw[h2];exact⟨h1,h⟩
 have hF:∀k,On {g with F:=ZL g n size arr} τ.mem k->∀o,g.F (g.blk k) o=none->ZL g n size arr (g.blk k) o=none:=λk h o hx=>by
  obtain⟨h1,h2⟩:=on k h;exact f4 _ _ (hst.inv.inj k n h1 h2 hon) hx
 refine⟨{g with F:=ZL g n size arr},hst.size,hst.defers,λk v hk=>?_,⟨λb o x hx=>?_,λk ob hk=>?_,λk m hkm h h'=>hst.inv.inj k m hkm (on k h).2 (on m h').2,hst.inv.size,hst.inv.pres,λk h=>hst.inv.own k (on k h).2,λb o v h=>f1 _ _ _ (hst.inv.f0 b o v h),λb o v h=>?_,hst.inv.os,hst.inv.tape,hst.inv.output,hst.inv.dfr⟩,hok⟩
 ·obtain ⟨u,hu,hz⟩:=hs k v hk;rcases hz with rfl|⟨ds,rfl,rfl,hd⟩
  ·exact (hst.sl k u hu).ext (hE σ.nx) (S.ok_sl hst.ok hu)
  ·have hv:=hst.sl k _ hu;generalize a.tmps.getD k undef=q at hv;cases hv with|ptr _ _=>?_
   refine .d _ _ ?_;have hdl:ds.length=size:=by rw[<-e3,hd,zb]
   refine .fp _ _ _ _ (λj=>arr.getD j undef) hdl (λj hj=>?_) λj hj=>?_
   ·show ZL g n size arr (g.blk n) (0+j)=_;unfold ZL;rw[y5,if_pos rfl,if_pos hj]
   ·have hlt:j<c.length:=by omega
    have hce:c[j]= .d ds[j]:=by subst hd;rw[z1]
    have hr:=e5 _ hlt;rw[hce]at hr;cases hr with|d _ _ hr=>exact hr.mono f1
 ·have hx:ZL g n size arr b o=some x:=hx;unfold ZL at hx;by_cases hb:b=g.blk n
  ·subst hb;rw[if_pos rfl]at hx;by_cases ho:o<size
   ·rw [if_pos ho]at hx;obtain rfl:=za hx;simp[World.cell?,e1,Array.getD,show o<arr.size by omega]
   ·rw [if_neg ho]at hx;cases hx
  ·rw [if_neg hb]at hx;exact hst.inv.frz b o x hx
 ·obtain ⟨hkn,hob'⟩:=hmem k ob hk;have hob:=hst.inv.obs k ob hob';have hlt:=(S.ok_mem hst.ok hob').2;cases ob with
  |cells size c=>
   obtain⟨arr,T,e1,e2,e3,e4,e5,e6⟩:=hob;simp only[Ob.lt,ze]at hlt;exact⟨arr,T,e1,e2,e3,e4,λj hj=>(e5 j hj).ext1 (hE σ.nx) (hlt _ (zm hj)),λo=>hF k (by unfold On;rw[hk];trivial) o (e6 o)⟩
  |tail t b=>
   refine⟨λhh=>?_,hob.2⟩;obtain⟨arr,u,e1,e2,e3,e4⟩:=hob.1 hh;exact⟨arr,u,e1,e2,e3,λo ho=>hF k (by unfold On;rw[hk];exact hh) o (e4 o ho)⟩
  |vec t' sz' es' f'=>exact ZM.mono hob f1 rfl rfl rfl rfl (λ_=>rfl) (λhh o ho=>hF k (by unfold On;rw[hk];exact hh) o ho)
  |tag m t'=>exact hob
  |frame sz' l=>
   simp only[Ob.lt,ze]at hlt;exact⟨hob.1,λs v hs=>(hob.2 s v hs).ext (hE σ.nx) (hlt _ (Qb hs))⟩
  |loop k' ps asg body st pd=>exact hob
  |mp b ag tp l=>exact ZQ.mono hob f1 rfl rfl rfl rfl (λ_=>rfl) (λhh o ho=>hF k (by unfold On;rw[hk];exact hh) o ho)
 ·have h:ZL g n size arr b o=some v:=h;unfold ZL at h;by_cases hb:b=g.blk n
  ·subst hb;exact .inr (hst.inv.own n hon)
  ·rw [if_neg hb]at h;exact hst.inv.fnew b o v h
def MpL(n size:Nat)(c:List AV)(sl:List (Nat×AV)):List (Nat×AV)->Prop
 |[]=>True
 |(k,v)::t=>(∃u,look k sl=some u/\MpV n size c u v)/\MpL n size c sl t
theorem MpL.at{n size:Nat}{c:List AV}{sl:List (Nat×AV)}:∀ {l:List (Nat×AV)},MpL n size c sl l->∀k v,look k l=some v->∃u,look k sl=some u/\MpV n size c u v
 |(a,b)::t,h,k,v,hk=>by
  rw[QC]at hk;by_cases hka:k=a
  ·subst hka;rw[if_pos rfl]at hk;obtain rfl:=za hk;exact h.1
  ·rw [if_neg hka]at hk;exact MpL.at h.2 k v hk
theorem Wk.frzPL(n size:Nat)(c:List AV)(hm:look n σ.mem=some (.cells size c))(hs:MpL n size c σ.sl τ.sl)(hmem:MsM n σ.mem τ.mem)(hok:τ.ok=true):Wk N σ τ:=Wk.frzP hm hs.at hmem.at hok
variable {tp kx:List D}
variable {F:Nat->Nat->Option Value}
variable {es:Array MapEntry}
variable {zd z:D}
section
variable {P:Program} {ti:Nat->Option Ty} {N:Nat} {σ:S} {o:Oper} {K:S->Prop}
theorem Inv.newMap(hi:Inv κ g σ.mem w)(hok:σ.ok=true)(hw:w'.heap=w.heap.push (.map #[] 0))(h1:w'.os=w.os)(h2:w'.tape=w.tape)(h3:w'.output=w.output):
  ∃g',Ext σ.nx g g'/\g'.blk σ.nx=w.heap.size/\g'.has σ.nx=true/\Inv κ g' ((σ.nx,.mp true ag tp [])::σ.mem) w':=by
 have hmem:∀n ob,look n σ.mem=some ob->n<σ.nx/\ob.lt σ.nx=true:=λn ob h=>S.ok_mem hok h;let g':Gh:= {g with blk:=λn=>if n=σ.nx then w.heap.size else g.blk n,has:=λn=>if n=σ.nx then true else g.has n}
 have he:Ext σ.nx g g':=⟨λ_ _ _ h=>h,λn hn=>if_neg (by omega),λ_ _=>rfl,λ_ _=>rfl,λn hn=>if_neg (by omega)⟩;have hold:∀b o v,g.F b o=some v->b<w.heap.size:=λb o v h=>u0 w ⟨b,o,none⟩ (hi.frz b o v h);have hcell:∀b o v,g.F b o=some v->w'.cell? ⟨b,o,none⟩=some v:=λb o v h=>by
  have hc:=hi.frz _ _ _ h;have hlt:=hold _ _ _ h;simp only[World.cell?]at hc⊢;rw[hw,xw,if_neg (by omega)];exact hc
 have hi':Inv κ g' σ.mem w':=hi.grow hmem he (by rw[hw];simp) (λb hb=>by rw[hw,xw,if_neg (by omega)]) (λb o v h=> .inl h) hcell h1 h2 h3;have hb:g'.blk σ.nx=w.heap.size:=if_pos rfl;have hh:g'.has σ.nx=true:=if_pos rfl;refine⟨g',he,hb,hh,?_⟩;have hlook:∀n,look n ((σ.nx,Ob.mp true ag tp [])::σ.mem)=if n=σ.nx then some (.mp true ag tp [])else look n σ.mem:=λn=>QC _ _ _ _
 have on:∀n,n≠σ.nx->On g' ((σ.nx,.mp true ag tp [])::σ.mem) n->On g' σ.mem n:=λn hn h=>by
  unfold On at h⊢;rw[hlook,if_neg hn]at h;exact h
 have blt:∀n,On g' σ.mem n->g'.blk n<w.heap.size:=λn h=>by
  have hon:On g σ.mem n:=by
   unfold On at h⊢;cases hl:look n σ.mem with
   |none=>rw[hl]at h;exact h
   |some ob=>
    rw[hl]at h;have hn:=(hmem n ob hl).1;cases ob<;>first|exact h|exact(he.has n hn).symm.trans h
  have hlt:=hi.blt hon;have hn:n<σ.nx:=by
   unfold On at hon;cases hl:look n σ.mem with
   |none=>rw[hl]at hon;exact hon.elim
   |some ob=>exact(hmem n ob hl).1
  rw[he.blk n hn];exact hlt
 refine⟨hi'.frz,λn ob hn=>?_,λn m hnm h h'=>?_,hi'.size,hi'.pres,λn h=>?_,hi'.f0,hi'.fnew,hi'.os,hi'.tape,hi'.output,hi'.dfr⟩
 ·rw [hlook]at hn;by_cases hnn:n=σ.nx
  ·subst hnn;rw[if_pos rfl]at hn;obtain rfl:=za hn;refine⟨λ_=>hh,λ_=>rfl,λ_=>⟨(#[],0),?_,rfl,(λj hj=>by cases hj),λo=>?_,rfl,λj hj=>by cases hj⟩⟩
   ·rw [hb,hw];simp
   ·rw [hb];show g.F w.heap.size o=none;cases hq:g.F w.heap.size o with
    |none=>rfl
    |some v=>have:=hold _ _ _ hq;omega
  ·rw [if_neg hnn]at hn;exact hi'.obs n ob hn
 ·by_cases hn:n=σ.nx
  ·subst hn;have:=blt m (on m (vb hnm) h');omega
  ·by_cases hm:m=σ.nx
   ·subst hm;have:=blt n (on n hn h);omega
   ·exact hi'.inj n m hnm (on n hn h) (on m hm h')
 ·by_cases hn:n=σ.nx
  ·subst hn;rw[hb];exact .inl hi.size
  ·exact hi'.own n (on n hn h)
theorem Inv.reMap{l:List (List D×D)}{o:Obj}(hi:Inv κ g mem w)(hm:look n mem=some (.mp b ag tp l))(hh:g.has n=true)(hob:Zv κ g (w.putObj (g.blk n) o) n ob):
  Inv κ g ((n,ob)::mem) (w.putObj (g.blk n) o):=by
 obtain⟨es0,hr,_⟩:=(hi.obs n _ hm).2.2 hh;have hon:On g mem n:=by unfold On;rw[hm];exact hh
 have on:∀m,On g ((n,ob)::mem) m->On g mem m:=λm h=>by
  by_cases hmn:m=n
  ·subst hmn;exact hon
  ·unfold On at h⊢;rw[QC,if_neg hmn]at h;exact h
 refine⟨λb o' v h=>?_,λm ob' hm'=>?_,λm m' hmm h h'=>hi.inj m m' hmm (on m h) (on m' h'),by rw[Wd];exact hi.size,λb hb hmod=>?_,λm h=>hi.own m (on m h),hi.f0,hi.fnew,hi.os,hi.tape,hi.output,λx hx=>?_⟩
 ·have hc:=hi.frz b o' v h;have hne:b≠g.blk n:=by
   rintro rfl;simp only[World.cell?,hr]at hc;cases hc
  simp only[World.cell?]at hc⊢;rw[yh hne];exact hc
 ·rw [QC]at hm';by_cases hmn:m=n
  ·subst hmn;rw[if_pos rfl]at hm';obtain rfl:=za hm';exact hob
  ·rw [if_neg hmn]at hm';have hob':=hi.obs m ob' hm';cases ob' with
   |cells size c=>
    have hne:g.blk m≠g.blk n:=hi.inj m n hmn (by unfold On;rw[hm'];trivial) hon;obtain⟨arr,T,e1,er⟩:=hob';exact⟨arr,T,by rw[yh hne];exact e1,er⟩
   |tag k' t'=>
    obtain⟨arr,fz,e⟩:=hob';exact⟨arr,fz,by rw[yh (λhb=>by rw[hb,hr]at e;cases e)];exact e⟩
   |vec t' sz' es' f'=>exact ZM.mono hob' (λ_ _ _ h=>h) rfl rfl rfl rfl (λhh=>yh (hi.inj m n hmn (by unfold On;rw[hm'];exact hh) hon)) (λ_ _ h=>h)
   |tail=>
    refine⟨λhh=>?_,hob'.2⟩;have hne:g.blk m≠g.blk n:=hi.inj m n hmn (by unfold On;rw[hm'];exact hh) hon;obtain⟨arr,T,e1,er⟩:=hob'.1 hh;exact⟨arr,T,by rw[yh hne];exact e1,er⟩
   |frame sz l=>exact hob'
   |loop k ps asg body st pd=>
    have hne:g.blk m≠g.blk n:=hi.inj m n hmn (by unfold On;rw[hm'];trivial) hon;obtain⟨eb',fn',D',e⟩:=hob';exact⟨eb',fn',D',by rw[yh hne];exact e⟩
   |mp b ag tp l=>exact ZQ.mono hob' (λ_ _ _ h=>h) rfl rfl rfl rfl (λhh=>yh (hi.inj m n hmn (by unfold On;rw[hm'];exact hh) hon)) (λ_ _ h=>h)
 ·have hne:b≠g.blk n:=by
   rintro rfl;rcases hi.own n hon with h|h
   ·omega
   ·exact hmod h
  rw[yh hne];exact hi.pres b hb hmod
 ·have hD:=hi.dfr x hx;have hne:x≠g.blk n:=by
   rintro rfl;rw[hr]at hD;cases hD
  rw[yh hne];exact hD
def Xg:List D->List D->Bool
 |[],[]=>true
 |a::x,b::y=>eqD a b&&Xg x y
 |_,_=>false
def ZU:List (List D×D)->List D->Option D
 |[],_=>none
 |(k,v)::t,x=>bif Xg k x then some v else ZU t x
def J8:List (List D×D)->List D->D->List (List D×D)
 |[],x,v=>[(x,v)]
 |(k,u)::t,x,v=>bif Xg k x then(x,v)::t else(k,u)::J8 t x v
def QIn:TypeDesc->List D->Bool
 | .bool,[.bl _]=>true
 | .int k,[.it q _]=>decide (q=k)
 | .string,[.st _]=>true
 |_,_=>false
theorem Jm{dsc:TypeDesc}{c:List D}(hT:QIn dsc tp=true)(h:Xz F false tp c v):
  (dsc= .bool/\∃b,c=[.bl b]/\v= .bool b)\/(∃k,dsc= .int k/\∃n,c=[.it k n]/\v= .int k n)\/(dsc= .string/\∃l:List UInt8,c=[.st l]/\v= .string ⟨l.toArray⟩):=by
 obtain⟨h1,h2⟩:=h;rw[if_neg (by decide)]at h2;obtain⟨x,rfl,hx⟩:=h2;unfold QIn at hT;split at hT
 ·cases x<;>simp only[Q1,JP,wh,Bool.and_self]at h1<;>first|(cases h1;done)|skip
  cases hx;exact .inl ⟨rfl,_,rfl,rfl⟩
 ·rename_i k q m;obtain rfl:=of_decide_eq_true hT;cases x<;>simp only[Q1,JP,wh]at h1<;>first|(cases h1;done)|skip
  have h1:=of_decide_eq_true h1;subst h1;cases hx;exact .inr (.inl ⟨_,rfl,_,rfl,rfl⟩)
 ·cases x<;>simp only[Q1,JP,wh,Bool.and_self]at h1<;>first|(cases h1;done)|skip
  cases hx;exact .inr (.inr ⟨rfl,_,rfl,rfl⟩)
 ·cases hT
theorem Jn{dsc:TypeDesc}{c:List D}(hT:QIn dsc tp=true)(h:Xz F false tp c v):MapKept.IsKey dsc v:=by
 rcases Jm hT h with⟨rfl,b,_,rfl⟩|⟨k,rfl,n,_,rfl⟩|⟨rfl,l,_,rfl⟩
 ·trivial
 ·rfl
 ·trivial
theorem QSd{dsc:TypeDesc}{c c':List D}(hT:QIn dsc tp=true)(h:Xz F false tp c v)(h':Xz F false tp c' v'):Xg c c'=true↔v=v':=by
 rcases Jm hT h with⟨rfl,b,rfl,rfl⟩|⟨k,rfl,n,rfl,rfl⟩|⟨rfl,l,rfl,rfl⟩
 ·rcases Jm hT h' with⟨_,b',rfl,rfl⟩|⟨k,e,_⟩|⟨e,_⟩
  ·simp [Xg,eqD]
  ·cases e
  ·cases e
 ·rcases Jm hT h' with⟨e,_⟩|⟨k',e,n',rfl,rfl⟩|⟨e,_⟩
  ·cases e
  ·cases e;simp[Xg,eqD]
  ·cases e
 ·rcases Jm hT h' with⟨e,_⟩|⟨k,e,_⟩|⟨_,l',rfl,rfl⟩
  ·cases e
  ·cases e
  ·simp [Xg,eqD]
def QCG(F:Nat->Nat->Option Value)(ag:Bool)(tp:List D):List (List D×D)->List MapEntry->Prop
 |[],[]=>True
 |p::l,e::es=>(Xz F ag tp p.1 e.key/\DR F p.2 e.val)/\QCG F ag tp l es
 |_,_=>False
theorem QLM:∀(l:List (List D×D)) (es:List MapEntry),es.length=l.length->(∀i (h:i<l.length),Xz F ag tp l[i].1 (es.getD i default).key/\DR F l[i].2 (es.getD i default).val)->QCG F ag tp l es
 |[],[],_,_=>trivial
 |[],_::_,h,_=>by simp at h
 |_::_,[],h,_=>by simp at h
 |p::l,e::es,h,hr=>⟨hr 0 (by simp),QLM l es (by simpa using h) λi hi=>by have:=hr (i+1) (by simpa using hi);simpa using this⟩
theorem QLN{F:Nat->Nat->Option Value}{ag:Bool}{tp:List D}:∀(l:List (List D×D)) (es:List MapEntry),QCG F ag tp l es->es.length=l.length/\∀i (h:i<l.length),Xz F ag tp l[i].1 (es.getD i default).key/\DR F l[i].2 (es.getD i default).val
 |[],[],_=>⟨rfl,λi h=>by cases h⟩
 |[],_::_,h=>h.elim
 |_::_,[],h=>h.elim
 |p::l,e::es,h=>by
  obtain⟨i1,i2⟩:=QLN l es h.2;refine⟨by simp[i1],λi hi=>?_⟩;cases i with
  |zero=>simpa using h.1
  |succ i=>simpa using i2 i (by simpa using hi)
theorem QCH{F:Nat->Nat->Option Value}{dsc:TypeDesc}{tp kx:List D}{v:Value}(hT:QIn dsc tp=true)(hk:Xz F false tp kx v):∀(l:List (List D×D)) (es:List MapEntry) (i:Nat),QCG F false tp l es->
  (ZU l kx=none/\Instr.findNow dsc v es i=some none/\∀y new,Xz F false tp kx new.key->DR F y new.val->QCG F false tp (J8 l kx y) (es++[new]))\/
  (∃z j e,ZU l kx=some z/\Instr.findNow dsc v es i=some (some (i+j,e.val))/\es[j]? =some e/\e.key=v/\DR F z e.val/\∀y new,Xz F false tp kx new.key->DR F y new.val->QCG F false tp (J8 l kx y) (es.set j new))
 |[],[],i,_=> .inl ⟨rfl,rfl,λy new h1 h2=>⟨⟨h1,h2⟩,trivial⟩⟩
 |[],_::_,_,h=>h.elim
 |_::_,[],_,h=>h.elim
 |(k,z)::l,e::es,i,h=>by
  obtain⟨⟨h1,h2⟩,h3⟩:=h;obtain⟨r,hr,hiff⟩:=MapKept.sameNow_of_keys (Jn hT hk) (Jn hT h1);have he:=QSd hT h1 hk;cases r with
  |true=>
   have hv:=hiff.1 rfl;have hq:Xg k kx=true:=he.2 hv.symm;refine .inr ⟨z,0,e,by simp[ZU,hq],by simp[Instr.findNow,hr],rfl,hv.symm,h2,λy new q1 q2=>?_⟩;simp only[J8,hq,cond_true,List.set_cons_zero];exact⟨⟨q1,q2⟩,h3⟩
  |false=>
   have hne:¬e.key=v:=λq=>by have:=hiff.2 q.symm;cases this
   have hq:Xg k kx=false:=by
    cases hb:Xg k kx with
    |false=>rfl
    |true=>exact absurd (he.1 hb) hne
   rcases QCH hT hk l es (i+1) h3 with⟨a1,a2,a3⟩|⟨z',j,e',a1,a2,a3,a4,a5,a6⟩
   ·refine .inl ⟨by simp[ZU,hq,a1],by simp[Instr.findNow,hr,a2],λy new q1 q2=>?_⟩;simp only[J8,hq,cond_false,qe];exact⟨⟨h1,h2⟩,a3 y new q1 q2⟩
   ·refine .inr ⟨z',j+1,e',by simp[ZU,hq,a1],by simp[Instr.findNow,hr,a2];omega,by simpa using a3,a4,a5,λy new q1 q2=>?_⟩;simp only[J8,hq,cond_false,List.set_cons_succ];exact⟨⟨h1,h2⟩,a6 y new q1 q2⟩
theorem QDC(i:Nat):es.getD i default=es.toList.getD i default:=by
 simp[Array.getD,List.getD];split<;>simp_all
def QIo(es:Array MapEntry)(ck:Nat):Prop:=ck=es.size/\∀i,i<es.size->(es.getD i default).born=i
theorem QIo.push(h:QIo es ck)(k v:Value):QIo (es.push {key:=k,val:=v,born:=ck}) (ck+1):=by
 refine⟨by rw[Array.size_push,h.1],λi hi=>?_⟩;have hi':=hi;rw[Array.size_push]at hi';have e:(es.push {key:=k,val:=v,born:=ck}).getD i default=(es.push {key:=k,val:=v,born:=ck})[i]:=by simp only[Array.getD,hi,dite_true];rfl
 rw[e];by_cases hl:i<es.size
 ·have:=h.2 i hl;rw[Array.getElem_push_lt hl];simpa [Array.getD,hl]using this
 ·have:i=es.size:=by omega
  subst this;simp[h.1]
theorem QIo.modify(h:QIo es ck)(j:Nat)(f:MapEntry->MapEntry)(hf:∀e,(f e).born=e.born):QIo (es.modify j f) ck:=by
 refine⟨by rw[Array.size_modify];exact h.1,λi hi=>?_⟩;have hi':=hi;rw[Array.size_modify]at hi';have:=h.2 i hi';have e:(es.modify j f).getD i default=(es.modify j f)[i]:=by simp only[Array.getD,hi,dite_true];rfl
 have e2:es.getD i default=es[i]:=by simp only[Array.getD,hi',dite_true];rfl
 rw[e2]at this;rw[e,Array.getElem_modify];split
 ·rw [hf];exact this
 ·exact this
theorem ZQ.rel{l:List (List D×D)}(h:ZQ g w n b ag tp l)(hh:g.has n=true):∃(es:Array MapEntry) (ck:Nat),w.heap[g.blk n]? =some (.map es ck)/\QCG g.F ag tp l es.toList/\(∀o,g.F (g.blk n) o=none)/\QIo es ck:=by
 obtain⟨es,h1,h2,h3,h4,h5,h6⟩:=h.2.2 hh;exact⟨es.1,es.2,h1,QLM _ _ (by simpa using h2) (λi hi=>by rw[<-QDC];exact h3 i hi),h4,h5,h6⟩
theorem ZQ.of_rel{l:List (List D×D)}(hh:g.has n=true)(h1:w.heap[g.blk n]? =some (.map es ck))(h2:QCG g.F ag tp l es.toList)(h4:∀o,g.F (g.blk n) o=none)(hB:QIo es ck):ZQ g w n b ag tp l:=by
 obtain⟨q1,q2⟩:=QLN _ _ h2;exact⟨λ_=>hh,(λhf=>by rw[hh]at hf;cases hf),λ_=>⟨(es,ck),h1,by simpa using q1,(λi hi=>by rw[QDC];exact q2 i hi),h4,hB.1,hB.2⟩⟩
theorem OpX.makeMap(ag:Bool)(tp:List D)(hop:o.op= .makeMap t none)(hd:o.dst=some d)(hK:K ⟨(d,.mp σ.nx)::σ.sl,(σ.nx,.mp true ag tp [])::σ.mem,σ.nx+1⟩):OpX P N o σ K:=by
 refine⟨λhdN κ g a w hst next Q hn=>?_⟩;obtain⟨g',he,hb,hh,hi'⟩:=hst.inv.newMap (w':=w.alloc (.map #[] 0)) (ag:=ag) (tp:=tp) hst.ok rfl rfl rfl rfl;refine Qc (v:= .map (some w.heap.size)) (w':=w.alloc (.map #[] 0)) ?_ (hn g' _ _ _ hK ?_)
 ·simp only[execOp,hop];rfl
 ·rw [hd];refine hst.put (hdN _ hd) he hi' (.mp _ _ (by rw[hh,hb];rfl)) (S.ok_cons hst.ok (y3 _) (by simp[AV.lt,AV.lt2,AV.lt1,AV.lt0]) λp hp=>?_);rcases zi.1 hp with rfl|hp
  ·exact ⟨y6 _,rfl⟩
  ·obtain ⟨h1,h2⟩:=S.ok_memAll hst.ok p hp;exact⟨by omega,Ob.lt_mono h2 (y3 _)⟩
theorem OpX.lookup{x i:Operand}{dsc:TypeDesc}{kx r:D}{l:List (List D×D)}(hop:o.op= .lookup t x i false)(hd:o.dst=some d)(ht:P.underlying t=some (.map ke ee))(hke:P.underlying ke=some dsc)(hT:QIn dsc tp=true)
  (hz:∀w,(zeroValue ee).run P w= .ok zv w) (hzd:∀F,DR F zd zv) (hx:ρ σ.sl x=some (.mp n)) (hm:look n σ.mem=some (.mp b false tp l)) (hi:ρ σ.sl i=some (.d kx)) (hl:Q1 tp [kx]=true) (hr:(match ZU l [kx]with|some v=>v|none=>zd)=r)
  (hK:K ⟨(d,.d r)::σ.sl,σ.mem,σ.nx⟩):OpX P N o σ K:=by
 refine⟨λhdN κ g a w hst next Q hn=>?_⟩;have hx':=ρ_ok hst.sl hx;generalize ha:a.eval x=p at hx';cases hx' with|mp _ q hq=>?_
 have hi':=ρ_ok hst.sl hi;generalize hb:a.eval i=q at hi';cases hi' with|d _ _ hi'=>?_
 have hkey:Xz g.F false tp [kx] q:=⟨hl,by rw[if_neg (by decide)];exact⟨kx,rfl,hi'⟩⟩;have hik:=Jn hT hkey;have hob:=hst.inv.obs n _ hm;have key:∃v,(execOp a.eval o).run P w= .ok (.value v) w/\DR g.F r v:=by
  cases hh:g.has n with
  |false=>
   rw[hh,if_neg (by decide)]at hq;subst hq;have hl0:=hob.2.1 hh;subst hl0;have hr:zd=r:=hr;refine⟨zv,?_,hr▸hzd _⟩;have hf:(Instr.findKey ke q []).run P w= .ok none w:=v7 hke rfl;simp[execOp,hop,ha,hb,Instr.lookup,run_underlying ht,vv hke hik,hf,hz,Result.andThen]
  |true=>
   rw[hh,if_pos rfl]at hq;subst hq;obtain⟨es,ck,h1,h2,h4⟩:=ZQ.rel hob hh;rcases QCH hT hkey l es.toList 0 h2 with⟨a1,a2,_⟩|⟨z',j,e',a1,a2,_,_,a5,_⟩
   ·rw [a1]at hr;refine⟨zv,?_,hr▸hzd _⟩;simp[execOp,hop,ha,hb,Instr.lookup,run_underlying ht,wn h1,vv hke hik,v7 hke a2,hz,Result.andThen]
   ·rw [a1]at hr;refine⟨e'.val,?_,hr▸a5⟩;simp[execOp,hop,ha,hb,Instr.lookup,run_underlying ht,wn h1,vv hke hik,v7 hke a2,Result.andThen]
 obtain⟨v,hrun,hv⟩:=key;refine Qc hrun (hn g _ _ _ hK ?_);rw[hd];exact hst.put (hdN _ hd) (Ext.refl _ _) hst.inv (.d _ _ hv) (S.ok_cons hst.ok (zt _) rfl (S.ok_memAll hst.ok))
theorem OpX.mapUpdate{x i:Operand}{dsc:TypeDesc}{kx vx:D}{l l2:List (List D×D)}(hop:o.op= .mapUpdate t x i y)(hno:o.dst=none)(ht:P.underlying t=some (.map ke ee))(hke:P.underlying ke=some dsc)(hT:QIn dsc tp=true)
  (hx:ρ σ.sl x=some (.mp n)) (hm:look n σ.mem=some (.mp true false tp l)) (hi:ρ σ.sl i=some (.d kx)) (hl:Q1 tp [kx]=true) (hy:ρ σ.sl y=some (.d vx)) (hl2:J8 l [kx] vx=l2)
  (hK:K ⟨σ.sl,(n,.mp true false tp l2)::σ.mem,σ.nx⟩):OpX P N o σ K:=by
 refine⟨λhdN κ g a w hst next Q hn=>?_⟩;subst hl2;have hx':=ρ_ok hst.sl hx;generalize ha:a.eval x=p at hx';have hob:=hst.inv.obs n _ hm;have hh:g.has n=true:=hob.1 rfl;cases hx' with|mp _ q0 hq0=>?_
 rw[hh,if_pos rfl]at hq0;subst hq0;have hi':=ρ_ok hst.sl hi;generalize hb:a.eval i=q at hi';cases hi' with|d _ _ hi'=>?_
 have hy':=ρ_ok hst.sl hy;generalize hc:a.eval y=s at hy';cases hy' with|d _ _ hy'=>?_
 have hkey:Xz g.F false tp [kx] q:=⟨hl,by rw[if_neg (by decide)];exact⟨kx,rfl,hi'⟩⟩;obtain⟨es,ck,h1,h2,h4⟩:=ZQ.rel hob hh;have hik:=Jn hT hkey;have hlt:g.blk n<w.heap.size:=(un.1 h1).1;have key:∃o',(execOp a.eval o).run P w= .ok .skip (w.putObj (g.blk n) o')/\Zv κ g (w.putObj (g.blk n) o') n (.mp true false tp (J8 l [kx] vx)):=by
  rcases QCH hT hkey l es.toList 0 h2 with⟨a1,a2,a3⟩|⟨z',j,e',a1,a2,a3,a4,_,a6⟩
  ·refine ⟨.map (es.push {key:=q,val:=s,born:=ck}) (ck+1),?_,ZQ.of_rel hh (uk hlt) (by rw[Array.toList_push];exact a3 vx _ hkey hy') h4.1 (h4.2.push _ _)⟩;simp[execOp,hop,ha,hb,hc,Instr.mapUpdate,run_underlying ht,wn h1,vv hke hik,v7 hke a2,jb _ h1,Result.andThen,World.putObj]
  ·have hj:es[j]? =some e':=by simpa using a3
   refine⟨.map (es.modify j λe=> {e with key:=q,val:=s}) ck,?_,ZQ.of_rel hh (uk hlt) ?_ h4.1 (h4.2.modify _ _ λ_=>rfl)⟩
   ·simp [execOp,hop,ha,hb,hc,Instr.mapUpdate,run_underlying ht,wn h1,vv hke hik,v7 hke a2,hj,a4,MapKept.run_keyThatStays hik,jb _ h1,Result.andThen,World.putObj]
   ·have hm2:(es.modify j λe=> {e with key:=q,val:=s}).toList=es.toList.set j {e' with key:=q,val:=s}:=by
     rw[Vg];exact Wp _ _ _ _ (by simpa using a3)
    rw[hm2];exact a6 vx _ hkey hy'
 obtain⟨o',hrun,hob'⟩:=key;refine Yx hrun (hn g _ _ _ hK ?_);rw[hno];exact⟨hst.size,hst.defers,hst.sl,hst.inv.reMap hm hh hob',by
  refine S.ok_iff.2 ⟨(S.ok_iff.1 hst.ok).1,λp hp=>?_⟩;rcases zi.1 hp with rfl|hp
  ·exact ⟨(S.ok_mem hst.ok hm).1,rfl⟩
  ·exact S.ok_memAll hst.ok p hp⟩
theorem Wk.nlMp(n j size:Nat)(ag:Bool)(tp:List D)(hn:look n σ.mem=some (.cells size c))(hc:c[j]? =some (.d (.ot (.map none)))):
  Wk N σ ⟨σ.sl,(n,.cells size (c.set j (.mp σ.nx)))::(σ.nx,.mp false ag tp [])::σ.mem,σ.nx+1⟩:=by
 refine⟨λκ g a w hst=>?_⟩;have hmem:∀n ob,look n σ.mem=some ob->n<σ.nx/\ob.lt σ.nx=true:=λn ob h=>S.ok_mem hst.ok h;let g':Gh:= {g with has:=λn=>if n=σ.nx then false else g.has n}
 have he:Ext σ.nx g g':=⟨λ_ _ _ h=>h,λ_ _=>rfl,λ_ _=>rfl,λ_ _=>rfl,λn hn=>if_neg (by omega)⟩;have hi':Inv κ g' σ.mem w:=hst.inv.grow hmem he (zt _) (λ_ _=>rfl) (λb o v h=> .inl h) (λb o v h=>hst.inv.frz b o v h) rfl rfl rfl;have hlook:∀k,look k ((σ.nx,Ob.mp false ag tp [])::σ.mem)=if k=σ.nx then some (.mp false ag tp [])else look k σ.mem:=λk=>QC _ _ _ _
 have hno:¬On g' ((σ.nx,.mp false ag tp [])::σ.mem) σ.nx:=by
  unfold On;rw[hlook,if_pos rfl];show¬(if σ.nx=σ.nx then false else g.has σ.nx)=true;rw[if_pos rfl];simp
 have on:∀k,On g' ((σ.nx,.mp false ag tp [])::σ.mem) k->On g' σ.mem k:=λk h=>by
  by_cases hk:k=σ.nx
  ·subst hk;exact(hno h).elim
  ·unfold On at h⊢;rw[hlook,if_neg hk]at h;exact h
 have h1:Inv κ g' ((σ.nx,.mp false ag tp [])::σ.mem) w:=by
  refine⟨hi'.frz,λk ob hk=>?_,λk m hkm h h'=>hi'.inj k m hkm (on k h) (on m h'),hi'.size,hi'.pres,λk h=>hi'.own k (on k h),hi'.f0,hi'.fnew,hi'.os,hi'.tape,hi'.output,hi'.dfr⟩;rw[hlook]at hk;by_cases hkk:k=σ.nx
  ·subst hkk;rw[if_pos rfl]at hk;obtain rfl:=za hk;refine⟨(λh=>by cases h),λ_=>rfl,λhh=>?_⟩;have:(if σ.nx=σ.nx then false else g.has σ.nx)=true:=hh;rw[if_pos rfl]at this;cases this
  ·rw [if_neg hkk]at hk;exact hi'.obs k ob hk
 obtain⟨hnlt,holt⟩:=hmem n _ hn;have hn1:look n ((σ.nx,Ob.mp false ag tp [])::σ.mem)=some (.cells size c):=by rw[hlook,if_neg (by omega)];exact hn
 obtain⟨arr,T,e1,e2,e3,e4,e5,e6⟩:=h1.obs n _ hn1;have hjl:j<c.length:=(z6.1 hc).1;have h2:=h1.redo (o':= .cells size (c.set j (.mp σ.nx))) hn1 ⟨arr,T,e1,e2,by rw[v8];exact e3,λk hk=>by
   rw[ub];split
   ·rfl
   ·exact e4 k (by simpa using hk),λk hk=>by
   rw[ub];split
   ·rename_i hjk;subst hjk;have h5:=e5 j hjl;rw[show c[j]= .d (.ot (.map none))from(z6.1 hc).2]at h5;generalize arr.getD j undef=u at h5⊢;cases h5 with|d _ _ h5=>?_
    cases h5 with|ot _ _=>?_
    refine .mp _ _ ?_;show none=if(if σ.nx=σ.nx then false else g.has σ.nx)=true then some (g.blk σ.nx)else none
    rw[if_pos rfl,if_neg (by decide)]
   ·exact e5 k (by simpa using hk),e6⟩ (λ_=>by unfold On;rw[hn1];trivial)
 refine⟨g',hst.size,hst.defers,λk v hk=>(hst.sl k v hk).ext he (S.ok_sl hst.ok hk),h2,S.ok_iff.2 ⟨λp hp=>AV.lt_mono ((S.ok_iff.1 hst.ok).1 p hp) (y3 _),λp hp=>?_⟩⟩;rcases zi.1 hp with rfl|hp
 ·refine ⟨wm hnlt,?_⟩;simp only[Ob.lt,ze]at holt⊢;intro x hx;rcases uv hx with hx|rfl
  ·exact AV.lt1_mono (holt x hx) (y3 _)
  ·simp [AV.lt1,AV.lt0]
 ·rcases zi.1 hp with rfl|hp
  ·exact ⟨y6 _,rfl⟩
  ·have:=S.ok_memAll hst.ok p hp;exact⟨wm this.1,Ob.lt_mono this.2 (y3 _)⟩
theorem QQh{α:Type}{l:List (Nat×α)}{v:α}(h:QOQ l k v):look k l=some v:=by
 unfold QOQ at h;split at h
 ·rename_i u e;rw[e,h]
 ·exact h.elim
theorem QCI{α:Type}{l:List (Nat×α)}:∀ {m:List (Nat×α)},ZT l m->∀ {k:Nat} {v:α},(k,v)∈m->look k l=some v
 |(a,b)::t,h,k,v,hk=>by
  rcases zi.1 hk with e|hk
  ·cases e;exact QQh h.1
  ·exact QCI h.2 hk
def QIp(φ:Nat->Nat):List (Nat×AV)->List (Nat×AV)
 |[]=>[]
 |(k,v)::t=>(k,v.ren φ)::QIp φ t
def Ob.renF(φ:Nat->Nat):Ob->Ob
 | .frame sz l=> .frame sz (QIp φ l)
 |o=>o.ren φ
def QQi(φ:Nat->Nat):List (Nat×Ob)->List (Nat×Ob)
 |[]=>[]
 |(k,o)::t=>(φ k,o.renF φ)::QQi φ t
theorem QIq{v:AV}:∀ {l:List (Nat×AV)},(k,v)∈l->(k,v.ren φ)∈QIp φ l
 |(a,b)::t,h=>by
  rcases zi.1 h with e|h
  ·cases e;exact zo
  ·exact zk _ (QIq h)
theorem QIr{o:Ob}:∀ {l:List (Nat×Ob)},(k,o)∈l->(φ k,o.renF φ)∈QQi φ l
 |(a,b)::t,h=>by
  rcases zi.1 h with e|h
  ·cases e;exact zo
  ·exact zk _ (QIr h)
theorem QF7(φ:Nat->Nat)(k:Nat):∀l:List (Nat×AV),look k (QIp φ l)=(look k l).map (AV.ren φ)
 |[]=>rfl
 |(a,b)::t=>by
  simp only[QIp,look,QF7 φ k t];cases Nat.beq k a<;>rfl
def QUA(φ:Nat->Nat)(mem:List (Nat×Ob)):Bool:=mem.all (λp=>(match p.2 with| .frame .. =>Nat.beq (φ p.1) p.1| .loop .. =>false|_=>true)&&mem.all λq=>Nat.beq p.1 q.1|| !Nat.beq (φ p.1) (φ q.1))
theorem Wk.ren(φ:Nat->Nat)(hs:ZT σ.sl (QIp φ τ.sl))(hm:ZT σ.mem (QQi φ τ.mem))(hB:QUA φ τ.mem=true)(hok:τ.ok=true):Wk N σ τ:=by
 refine⟨λκ g a w hst=>⟨g.pull φ,hst.size,hst.defers,λk v hk=>?_,?_,hok⟩⟩
 ·exact (hst.sl k _ (QCI hs (QIq (Qb hk)))).pull (S.ok_sl hok hk)
 have hi:=hst.inv;have hob:∀k ob,look k τ.mem=some ob->look (φ k) σ.mem=some (ob.renF φ):=λk ob h=>QCI hm (QIr (Qb h));have hbb:∀k ob,look k τ.mem=some ob->(match ob with| .frame .. =>Nat.beq (φ k) k| .loop .. =>false|_=>true)=true/\∀k' ob',look k' τ.mem=some ob'->k≠k'->φ k≠φ k':=λk ob h=>by
  have h1:=ze.1 hB _ (Qb h);rw[zf]at h1;refine⟨h1.1,λk' ob' h' hne he=>?_⟩;have h2:=ze.1 h1.2 _ (Qb h');rw[he,wc]at h2;have:Nat.beq k k'=false:=Qy hne;simp[this]at h2
 have on:∀k,On (g.pull φ) τ.mem k->On g σ.mem (φ k):=λk h=>by
  unfold On at h⊢;cases hl:look k τ.mem with
  |none=>rw[hl]at h;exact h.elim
  |some ob=>
   rw[hl]at h;rw[hob k ob hl];have:=(hbb k ob hl).1;cases ob with
   |loop=>cases this
   |_=>exact h
 have lk:∀k,On (g.pull φ) τ.mem k->∃ob,look k τ.mem=some ob:=λk h=>by
  unfold On at h;cases hl:look k τ.mem with
  |none=>rw[hl]at h;exact h.elim
  |some ob=>exact⟨ob,rfl⟩
 refine⟨hi.frz,λk ob hk=>?_,λk k' hne h h'=>?_,hi.size,hi.pres,λk h=>hi.own _ (on k h),hi.f0,hi.fnew,hi.os,hi.tape,hi.output,hi.dfr⟩
 ·have h1:=hi.obs _ _ (hob k ob hk);obtain⟨h2,_⟩:=hbb k ob hk;have hlt:=(S.ok_mem hok hk).2;cases ob with
  |frame sz l=>
   have h2:=zh h2;simp only[Ob.lt,ze]at hlt;have h1:(∀m,sz=m+1->(κ.sv (φ k)).size=m)/\∀s v,look s (QIp φ l)=some v->AVR g v ((κ.sv (φ k)).getD s undef):=h1;rw[h2]at h1;exact⟨h1.1,λs v hv=>(h1.2 s _ (by rw[QF7,hv];rfl)).pull (hlt _ (Qb hv))⟩
  |loop=>cases h2
  |cells=>exact Zv.pull rfl hlt h1
  |tail=>exact Zv.pull rfl hlt h1
  |vec=>exact Zv.pull rfl hlt h1
  |tag=>exact Zv.pull rfl hlt h1
  |mp=>exact Zv.pull rfl hlt h1
 ·obtain ⟨ob,hl⟩:=lk k h;obtain⟨ob',hl'⟩:=lk k' h';exact hi.inj _ _ ((hbb k ob hl).2 k' ob' hl' hne) (on k h) (on k' h')
end
section
variable {P:Program} {ti:Nat->Option Ty} {N:Nat}
theorem QX.mid{id:Nat}(τ:S)(h:QX P ti N id ops σ (λσ'=>Wk N σ' τ))(hK:K τ):QX P ti N id ops σ K:=⟨λκ g a w hr hst=>by
 refine wpIn_mono (h.run κ g a w hr hst) λe a' w' ⟨l,g',σ',hl,hq,hst'⟩=>?_;cases e with
 |normal=>
  obtain⟨g2,h2⟩:=Wk.run hq _ g' a' w' hst';exact⟨l,g2,τ,hl,hK,h2⟩
 |_=>exact hq.elim⟩
def allT(ops:List Oper):Nat->List Nat->Tr
 |0,_=> .nil
 |f+1,done=>(List.range ops.length).foldr (λi t=>bif QEj ops done i then .cons i (allT ops f (i::done)) t else t) .nil
def QOj:List Nat->List Oper->Tr
 |[],ops=>allT ops ops.length []
 |h::hs,ops=>QOj hs (Qw h h ops)
end
variable {oi:Oper}
section
variable {P:Program} {ti:Nat->Option Ty} {N:Nat} {F:Fence} {n:Nat}
def YV(P:Program)(o:Oper)(v:Value)(a:Act):Prop:=∀w,(execOp a.eval o).run P w= .ok (.value v) w
theorem QEr{ops:Array Oper}(hi:ops[i]? =some o)(hd:∀c,o.op≠ .defer c)(hc:∀c,o.op≠ .call c)(hb:∀w ev,o.about P w ev=none)(hg:o.guard=none){K:Act->World->Prop}(hv:YV P o v a)(h:K (a.put o.dst v) w):wpOpIn F n P ops Q i K a w:=by
 unfold Go.wpOpIn;simp only[hi];rw[if_pos (XA hg)];refine⟨λf hf=>?_,?_⟩
 ·rw [hb]at hf;cases hf
 ·rw [kh _ _ _ hd,hv w];exact h
theorem QDD{ops:Array Oper}{oj:Oper}(hj:ops[j]? =some oj)(hsi:∀cs b,oi.op≠ .select cs b)(hap:oi.apart ops oj=true)
  (hsj:∀cs b,oj.op≠ .select cs b) (hdj:∀c,oj.op≠ .defer c) (hQ:∀c a w,¬Q (.panic c) a w) {K:Act->World->Prop} (hv:YV P oi v a)
  (h:wpOpIn F n P ops Q j K (a.put oi.dst v) w):
  wpOpIn F n P ops Q j (λa' w'=>K (a'.put oi.dst v) w'/\YV P oi v a') a w:=by
 obtain⟨h1,h2,h3⟩:=Oper.apart_spec hap;have hx:∀u,YV P oi v (a.put oj.dst u):=λu w=>by rw[execOp_put oi hsi a oj.dst u h3];exact hv w
 have cm:∀(a:Act) u,(a.put oj.dst u).put oi.dst v=(a.put oi.dst v).put oj.dst u:=λa u=>by rw[<-Act.put_comm a _ u h2]
 unfold wpOpIn at*
 simp only[hj]at*
 rw[wanted_put oj a oi.dst _ h1,about_put oj w a oi.dst _ h1]at h;split
 ·rename_i hw;simp only[hw,if_true]at h;unfold Oper.wpIn at*
  rw[about_put oj w a oi.dst _ h1]at h;refine⟨h.1,?_⟩;have h:=h.2;rw[kh _ _ _ hdj,execOp_put oj hsj a oi.dst _ h1]at h;rw[kh _ _ _ hdj];generalize (execOp a.eval oj).run P w=r at*
  cases r with
  |ok y w'=>
   cases y<;>simp only[Oper.uponIn]at h⊢
   case value u=>exact⟨by rw[cm];exact h,hx u⟩
   case skip=>exact⟨by rw[cm];exact h,hx _⟩
   case defer d=>
    refine⟨by rw[cm,<-Act.put_defers];exact h,λw=>?_⟩;have h9:=hx undef w;cases hq:oj.dst with
    |none=>rw[hq]at h9;exact h9
    |some dd=>rw[hq]at h9;exact h9
   case enter f args=>
    refine⟨h.1,CallsIn.mono h.2 λe w'' he=>?_⟩;cases e with
    |returned u=>exact⟨by rw[cm];exact he,hx u⟩
    |panicked c=>exact(hQ _ _ _ he).elim
    |outgrown=>exact he
   case row row args=>exact⟨h.1,RowsIn.mono h.2 λu w'' he=>⟨by rw[cm];exact he,hx u⟩⟩
   case round l f tmps assign body=>
    refine⟨h.1,RoundIn.mono h.2 λe w'' he=>?_⟩;cases e with
    |returned u=>exact⟨by rw[cm];exact he,hx u⟩
    |panicked c=>exact(hQ _ _ _ he).elim
    |outgrown=>exact he
  |halt y w'=>
   cases y<;>simp only[Oper.uponIn]at h⊢
   case panic u=>exact(hQ _ _ _ h).elim
 ·rename_i hw;simp only[hw]at h;refine⟨h.1,?_⟩;exact⟨by rw[cm];exact h.2,hx _⟩
theorem QIs{ops:Array Oper}{md:Region.Mode}(hi:ops[i]? =some oi)(hs:∀cs b,oi.op≠ .select cs b)(hd:∀c,oi.op≠ .defer c)(hc:∀c,oi.op≠ .call c)(hb:∀w ev,oi.about P w ev=none)(hg:oi.guard=none)
  (hsel:∀(j:Nat) (o:Oper),ops[j]? =some o->(∀cs b,o.op≠ .select cs b)/\∀c,o.op≠ .defer c) (hQ:∀c a w,¬Q (.panic c) a w):
  ∀(fuel:Nat) (listed:Array Bool) (a:Act) (w:World),YV P oi v a->
   (∀j oj,ops[j]? =some oj->j≠i->listed.getD j true=false->(∀e∈oj.after,Region.binds md e=true->e.on≠i)->oi.apart ops oj=true)->
   i∈Region.ready md ops listed->
   wpAnyIn F n P md ops Q fuel (listed.setIfInBounds i true) (a.put oi.dst v) w->wpAnyIn F n P md ops Q (fuel+1) listed a w:=by
 intro fuel;induction fuel with
 |zero=>
  intro listed a w hv _ hr H;refine⟨λh=>(by rw[h]at hr;cases hr),λj hj=>?_⟩;by_cases hji:j=i
  ·subst hji;exact QEr hi hd hc hb hg hv H
  ·have:=ready_mono hj hji;rw[H.1]at this;cases this
 |succ fuel ih=>
  intro listed a w hv hfree hr H;refine⟨λh=>(by rw[h]at hr;cases hr),λj hj=>?_⟩;by_cases hji:j=i
  ·subst hji;exact QEr hi hd hc hb hg hv H
  ·have h1:=H.2 j (ready_mono hj hji);obtain⟨hjun,oj,hoj,hall⟩:=mem_ready.1 hj;have hnot:∀e∈oj.after,Region.binds md e=true->e.on≠i:=λe he hb heq=>by
    have h1:=hall e he hb;have h0:=(mem_ready.1 hr).1;rw[heq]at h1;rcases yj i listed.size with h'|h'
    ·simp [h']at h0 h1;rw[h0]at h1;cases h1
    ·simp [xh h']at h1
   have h2:=QDD hoj hs (hfree j oj hoj hji hjun hnot) (hsel j oj hoj).1 (hsel j oj hoj).2 hQ hv h1;have hfree':∀k ok,ops[k]? =some ok->k≠i->(listed.setIfInBounds j true).getD k true=false->
     (∀e∈ok.after,Region.binds md e=true->e.on≠i)->oi.apart ops ok=true:=λk ok hk hki hun hno=>by
    refine hfree k ok hk hki ?_ hno;by_cases hjk:j=k
    ·subst hjk;exact hjun
    ·rw [getD_set_ne true hjk]at hun;exact hun
   refine wpOpIn_mono (λa' w' ⟨h3,hv'⟩=>ih (listed.setIfInBounds j true) a' w' hv' hfree' (ready_mono hr (vb hji)) ?_) h2;rw[j6 _ _ hji];exact h3
def QSe:Op->Bool
 | .move _| .nilCheck _| .fieldAddr .. =>true
 |_=>false
def QDj(N:Nat)(ops:List Oper)(h:Nat):Bool:=
 match ops[h]? with
 |some o=>QSe o.op&&(match o.guard with|none=>true|some _=>false)&&(match o.dst with|some d=>Nat.blt d N|none=>false)&&o.after.toList.all (λe=> !Region.binds .any e)&&ops.all (λo=>QJz o.op&&QBB h o)&&
   Region.free .any ops.toArray (Array.replicate ops.length false) h
 |none=>false
def Ym(P:Program)(ti:Nat->Option Ty)(ops:List Oper)(h:Nat)(σ:S)(K':S->Prop):Prop:=
 match ops[h]? with
 |some o=>match o.dst with
  |some d=>match o.op with
   | .move x=>match ρ σ.sl x with
    |some v=>K' ⟨(d,v)::σ.sl,σ.mem,σ.nx⟩
    |none=>False
   | .nilCheck x=>match ρ σ.sl x with
    |some (.ptr n off)=>K' ⟨(d,.ptr n off)::σ.sl,σ.mem,σ.nx⟩
    |_=>False
   | .fieldAddr t x f=>match ti t,ρ σ.sl x with
    |some ⟨.struct fs,_,_,_,_,_⟩,some (.ptr n off)=>match Ju ti fs f with
     |some (fo,fsz)=>bif Nat.blt 0 fsz then K' ⟨(d,.ptr n (off+fo))::σ.sl,σ.mem,σ.nx⟩else False
     |none=>False
    |_,_=>False
   |_=>False
  |none=>False
 |none=>False
theorem QIt{x:Operand}(hop:o.op= .nilCheck x)(hv:AVR g (.ptr n off) (a.eval x)):YV P o (a.eval x) a:=λw=>by
 generalize hq:a.eval x=q at hv;cases hv with|ptr=>?_
 simp[execOp,hop,hq]
theorem QHA{fo fsz:Nat}{x:Operand}{fs:List (Nat×Nat)}(hti:QU P ti)(hop:o.op= .fieldAddr t x f)(ht:YZ P t=some ty)(hk:ty.kd= .struct fs)(hf:Ju ti fs f=some (fo,fsz))(h0:0<fsz)
  (hv:AVR g (.ptr n off) (a.eval x)):∃v,YV P o v a/\AVR g (.ptr n (off+fo)) v:=by
 obtain⟨u,i,ht⟩:=QE ht;unfold Ju at hf;split at hf
 case h_2=>cases hf
 rename_i q off' ft hfs;split at hf
 case h_2=>cases hf
 rename_i fty hfty;simp only[yo,xo]at hf;obtain⟨rfl,rfl⟩:=hf;obtain⟨uf,fi,hft⟩:=QE (hti _ _ hfty);have hkd:=ht.kd;rw[hk]at hkd;have hu:∃fields:Array Field,u= .struct fields/\fields.toList.map (λf=>(f.offset,f.type))=fs:=by
  cases u<;>simp only[XU]at hkd<;>first|(cases hkd;done)|skip
  rename_i fields;exact⟨fields,rfl,by injection hkd⟩
 obtain⟨fields,rfl,hfl⟩:=hu;have hfield:∃fd:Field,fields[f]? =some fd/\fd.offset=off'/\fd.type=ft:=by
  rw[<-hfl,yv]at hfs;cases hq:fields.toList[f]? with
  |none=>rw[hq]at hfs;cases hfs
  |some fd=>
   rw[hq]at hfs;simp only[ug,yo,xo]at hfs;exact⟨fd,by simpa using hq,hfs.1,hfs.2⟩
 obtain⟨fd,hfd,rfl,rfl⟩:=hfield;generalize ha:a.eval x=q at hv;cases hv with|ptr=>?_
 refine⟨.pointer (some ⟨g.blk n,off+fd.offset,none⟩),λw=>?_,.ptr _ _⟩;simp only[execOp,hop,ha,Instr.fieldAt,Instr.sureAddr,zp,zq,zg,run_underlying ht.und,hfd,fieldPlace,QV hft.info,ww,hft.size,ZB];rw[if_neg (by omega)];rfl
theorem ZG.hoistV(hti:QU P ti)(h:Nat)(hB:QDj N ops h=true)(hK:Ym P ti ops h σ λσ'=>ZG P ti N (Qw h h ops) σ' K):ZG P ti N ops σ K:=by
 unfold QDj at hB;unfold Ym at hK;cases ho:ops[h]? with
 |none=>rw[ho]at hB;cases hB
 |some o=>
 rw[ho]at hB hK;simp only[zf]at hB;obtain⟨⟨⟨⟨⟨b1,b2⟩,b3⟩,b4⟩,b5⟩,b6⟩:=hB;have hg:o.guard=none:=by
  cases hq:o.guard with
  |none=>rfl
  |some _=>rw[hq]at b2;cases b2
 have main:∀d v,o.dst=some d->(σ.ok=true->v.lt σ.nx=true)->(∀κ g a w,St κ N g σ a w->∃u,YV P o u a/\AVR g v u)->ZG P ti N (Qw h h ops) ⟨(d,v)::σ.sl,σ.mem,σ.nx⟩ K->ZG P ti N ops σ K:=by
  intro d v hd hlt hY hK;have hdN:d<N:=by rw[hd]at b3;simpa using b3
  have hhl:h<ops.length:=(z6.1 ho).1;have ho':ops.toArray[h]? =some o:=by simpa using ho
  have hall:∀(j:Nat) (o':Oper),ops[j]? =some o'->QJz o'.op=true/\QBB h o'=true:=λj o' hj=>by
   have:=ze.1 b5 o' (ya hj);simpa using this
  have hnop:(∀cs b,o.op≠ .select cs b)/\(∀c,o.op≠ .defer c)/\(∀c,o.op≠ .call c)/\∀w ev,o.about P w ev=none:=by
   refine⟨λcs b hq=>(by rw[hq]at b1;cases b1),λc hq=>(by rw[hq]at b1;cases b1),λc hq=>(by rw[hq]at b1;cases b1),λw ev=>?_⟩;unfold Oper.about;cases hq:o.op<;>rw[hq]at b1<;>first|rfl|(cases b1;done)
  refine⟨λκ g a w hst Q hQ hP=>?_⟩;obtain⟨u,hyv,hav⟩:=hY κ g a w hst;have hst1:St κ N g ⟨(d,v)::σ.sl,σ.mem,σ.nx⟩ (a.put o.dst u) w:=by
   rw[hd];exact hst.put hdN (.refl _ _) hst.inv hav (S.ok_cons hst.ok (zt _) (hlt hst.ok) (S.ok_memAll hst.ok))
  have h1:=hK.run κ g _ w hst1 Q hQ hP;have hdl:=QDf (h:=h) h ops hhl;obtain⟨m,hm⟩:∃m,ops.length=m+1:=⟨ops.length-1,by omega⟩;have hdm:(Qw h h ops).length=m:=by omega
  rw[hdm]at h1;rw[hm];refine QIs ho' hnop.1 hnop.2.1 hnop.2.2.1 hnop.2.2.2 hg (λj o' hj=>?_) hP m _ a w hyv ?_ ?_ ?_
  ·have:=(hall j o' (by simpa using hj)).1;refine⟨λcs b hq=>?_,λc hq=>?_⟩<;>rw[hq]at this<;>cases this
  ·intro j oj hj hne hun hno;have:=Wn ho' b6 j oj hj hne (by rw[hm];exact hun) hno;exact this
  ·refine mem_ready.2 ⟨by simp[Array.getD];omega,o,ho',λe he hb=>?_⟩;have:=ze.1 b4 e (by simpa using he);rw[hb]at this;cases this
  ·refine QG5 (h:=h) (λj o' hj i c hgc hih=>?_) m _ _ _ w ?_ ?_ ?_ h1
   ·have:=(hall j o' hj).2;unfold QBB at this;rw[hgc]at this;simp only[hih,wc,vw]at this;cases this
   ·intro i b;rw[getD_set_ne b (vb (QOa h i))];by_cases hi:i<m
    ·have:up h i<m+1:=by
      unfold up;by_cases hih:i<h
      ·rw [ZZ hih,cond_true];omega
      ·rw [XN hih,cond_false];omega
     simp[Array.getD,hi,this]
    ·have:¬up h i<m+1:=by
      unfold up;by_cases hih:i<h
      ·rw [ZZ hih,cond_true];omega
      ·rw [XN hih,cond_false];omega
     simp[Array.getD,hi,this]
   ·exact Qm true (by simp;omega)
   ·exact Qm false (by simp;omega)
 simp only at hK;split at hK
 ·rename_i d hd;split at hK
  ·rename_i x hop;split at hK
   ·rename_i v hv;exact main d v hd (λhok=>ρ_lt hok hv) (λκ g a w hst=>⟨a.eval x,λw=>QId hop _ w,ρ_ok hst.sl hv⟩) hK
   ·exact hK.elim
  ·rename_i x hop;split at hK
   ·rename_i n off hv;exact main d _ hd (λhok=>ρ_lt hok hv) (λκ g a w hst=>⟨a.eval x,QIt hop (ρ_ok hst.sl hv),ρ_ok hst.sl hv⟩) hK
   ·exact hK.elim
  ·rename_i t x f hop;split at hK
   ·rename_i fs _ _ _ _ _ n off ht hv;split at hK
    ·rename_i fo fsz hf;cases hb:Nat.blt 0 fsz with
     |false=>rw[hb]at hK;exact hK.elim
     |true=>
      rw[hb]at hK;exact main d _ hd (λhok=>by have:=ρ_lt hok hv;simpa [AV.lt,AV.lt2,AV.lt1,AV.lt0]using this) (λκ g a w hst=>QHA hti hop (hti _ _ ht) rfl hf (by simpa using hb) (ρ_ok hst.sl hv)) hK
    ·exact hK.elim
   ·exact hK.elim
  ·exact hK.elim
 ·exact hK.elim
def hTreeV(P:Program)(ti:Nat->Option Ty)(N:Nat)(K:S->Prop)(T:Tr):List Nat->List Oper->S->Prop
 |[],ops,σ=>evC P ti N ops K T σ
 |h::hs,ops,σ=>Ym P ti ops h σ λσ'=>hTreeV P ti N K T hs (Qw h h ops) σ'
def QDk(N:Nat)(T:Tr):List Nat->List Oper->Bool
 |[],ops=>QIg ops [] T.heads&&QDO ops [] T&& !T.isNil
 |h::hs,ops=>QDj N ops h&&QDk N T hs (Qw h h ops)
theorem Ym.mono{h:Nat}{A B:S->Prop}(hab:∀σ,A σ->B σ)(hk:Ym P ti ops h σ A):Ym P ti ops h σ B:=by
 unfold Ym at hk⊢;split at hk
 ·split at hk
  ·split at hk
   ·split at hk
    ·exact hab _ hk
    ·exact hk.elim
   ·split at hk
    ·exact hab _ hk
    ·exact hk.elim
   ·split at hk
    ·split at hk
     ·rename_i fo fsz heq;revert hk;cases Nat.blt 0 fsz with
      |false=>exact λh=>h.elim
      |true=>exact λh=>hab _ h
     ·exact hk.elim
    ·exact hk.elim
   ·exact hk.elim
  ·exact hk.elim
 ·exact hk.elim
theorem ZG.hTreeV(hti:QU P ti){T:Tr}:∀(hs:List Nat) (ops:List Oper) (σ:S),QDk N T hs ops=true->Sy.hTreeV P ti N K T hs ops σ->ZG P ti N ops σ K
 |[],ops,σ,hB,h=> .tree hti T hB h
 |k::hs,ops,σ,hB,h=>by
  simp only[QDk,zf]at hB;exact .hoistV hti k hB.1 (h.mono λσ' hk=>ZG.hTreeV hti hs _ σ' hB.2 hk)
theorem Xs(hti:QU P ti)(hm:P.follows .mixedOrders=true){id:Nat}(hs:List Nat)(hB:QDk N (QOj hs ops) hs ops=true)(h:hTreeV P ti N K (QOj hs ops) hs ops σ):QX P ti N id ops σ K:= .of_A hm (.hTreeV hti hs ops σ hB h)
end
section
variable {P:Program} {ti:Nat->Option Ty} {N:Nat} {σ:S}
theorem AV.lt1_lt(h:u.lt1 m=true):u.lt m=true:=by
 cases u<;>simp_all [AV.lt1,AV.lt0,AV.lt,AV.lt2]
inductive MsO(n size:Nat)(c:List AV):Ob->Ob->Prop
 |same(o:Ob):MsO n size c o o
 |cells(sz:Nat)(c0 c1:List AV)(hl:c0.length=c1.length)(hc:∀j (h:j<c0.length) (h':j<c1.length),MsV n size c c0[j] c1[j]/\c1[j].sc=true):MsO n size c (.cells sz c0) (.cells sz c1)
theorem Wk.frzMsO(hm:look n σ.mem=some (.cells size c))(hs:∀k v,look k τ.sl=some v->∃u,look k σ.sl=some u/\MsV n size c u v)
  (hmem:∀k ob,look k τ.mem=some ob->k≠n/\∃ob0,look k σ.mem=some ob0/\MsO n size c ob0 ob) (hok:τ.ok=true):Wk N σ τ:=by
 refine⟨λκ g a w hst=>?_⟩;obtain⟨arr,T,e1,e2,e3,e4,e5,e6⟩:=hst.inv.obs n _ hm;have hon:On g σ.mem n:=by unfold On;rw[hm];trivial
 have f1:∀b o x,g.F b o=some x->ZL g n size arr b o=some x:=λb o x hx=>by
  unfold ZL;by_cases hb:b=g.blk n
  ·subst hb;rw[e6]at hx;cases hx
  ·rw [if_neg hb];exact hx
 have f4:∀b o,b≠g.blk n->g.F b o=none->ZL g n size arr b o=none:=λb o hb hx=>by unfold ZL;rw[if_neg hb];exact hx
 have hE:∀M,Ext M g {g with F:=ZL g n size arr}:=λM=>⟨f1,λ_ _=>rfl,λ_ _=>rfl,λ_ _=>rfl,λ_ _=>rfl⟩;have on:∀k,On {g with F:=ZL g n size arr} τ.mem k->k≠n/\On g σ.mem k:=λk h=>by
  unfold On at h⊢;cases hl:look k τ.mem with
  |none=>rw[hl]at h;exact h.elim
  |some ob=>
   rw[hl]at h;obtain⟨h1,ob0,h2,h3⟩:=hmem k ob hl;rw[h2];refine⟨h1,?_⟩;cases h3 with
   |same=>exact h
   |cells=>trivial
 have hF:∀k,On {g with F:=ZL g n size arr} τ.mem k->∀o,g.F (g.blk k) o=none->ZL g n size arr (g.blk k) o=none:=λk h o hx=>by
  obtain⟨h1,h2⟩:=on k h;exact f4 _ _ (hst.inv.inj k n h1 h2 hon) hx
 have msv:∀(u v:AV) (q:Value),u.lt σ.nx=true->AVR g u q->MsV n size c u v->AVR {g with F:=ZL g n size arr} v q:=by
  intro u v q hl hq hz;rcases hz with rfl|⟨sz,off,len,cap,es,rfl,rfl,h1,h2,h3,h4⟩
  ·exact hq.ext (hE σ.nx) hl
  ·cases hq with|ms _ _ _ _ _ ad had hc=>?_
   refine .d _ _ ?_;by_cases h0:len=0
   ·subst h0;obtain rfl:=yx.1 h2;exact .fs0 _ _ _
   ·obtain rfl:=had (by omega);refine .fs _ _ _ _ _ _ (λi j=>arr.getD (off+i*sz+j) undef) h2 hc (λi hi=>h3 _ (zm hi)) (λi j hi hj=>?_) λi hi j hj=>?_
    ·have hm1:i*sz+sz<=len*sz:=by
      have:(i+1)*sz<=len*sz:=zw _ (by omega);rw[z2]at this;omega
     show ZL g n size arr (g.blk n) (off+i*sz+j)=_;unfold ZL;rw[if_pos rfl,if_pos (by omega)]
    ·have hj':j<sz:=by have:=h3 _ (zm hi);omega
     have hm1:i*sz+sz<=len*sz:=by
      have:(i+1)*sz<=len*sz:=zw _ (by omega);rw[z2]at this;omega
     have hget:=QEe h3 i j hi hj;have hcj:c[off+(i*sz+j)]? =some (.d es[i][j]):=by
      have:=congrArg (λz=>z[i*sz+j]?) h4;simp only[wb,vt,yv,hget,ug]at this;rw[if_pos (by omega)]at this;exact this
     have hlt:off+(i*sz+j)<c.length:=by omega
     have hce:c[off+(i*sz+j)]= .d es[i][j]:=by rw[zj hlt]at hcj;exact za hcj
     have hr:=e5 _ hlt;rw[hce]at hr;rw[<-wl]at hr;cases hr with|d _ _ hr=>exact hr.mono f1
 refine⟨{g with F:=ZL g n size arr},hst.size,hst.defers,λk v hk=>?_,⟨λb o x hx=>?_,λk ob hk=>?_,λk m hkm h h'=>hst.inv.inj k m hkm (on k h).2 (on m h').2,hst.inv.size,hst.inv.pres,λk h=>hst.inv.own k (on k h).2,λb o v h=>f1 _ _ _ (hst.inv.f0 b o v h),λb o v h=>?_,hst.inv.os,hst.inv.tape,hst.inv.output,hst.inv.dfr⟩,hok⟩
 ·obtain ⟨u,hu,hz⟩:=hs k v hk;exact msv u v _ (S.ok_sl hst.ok hu) (hst.sl k u hu) hz
 ·have hx:ZL g n size arr b o=some x:=hx;unfold ZL at hx;by_cases hb:b=g.blk n
  ·subst hb;rw[if_pos rfl]at hx;by_cases ho:o<size
   ·rw [if_pos ho]at hx;obtain rfl:=za hx;simp[World.cell?,e1,Array.getD,show o<arr.size by omega]
   ·rw [if_neg ho]at hx;cases hx
  ·rw [if_neg hb]at hx;exact hst.inv.frz b o x hx
 ·obtain ⟨hkn,ob0,hob',hO⟩:=hmem k ob hk;have hob:=hst.inv.obs k ob0 hob';have hlt:=(S.ok_mem hst.ok hob').2;cases hO with
  |cells sz c0 c1 hl hc=>
   obtain⟨arr',T',d1,d2,d3,d4,d5,d6⟩:=hob;simp only[Ob.lt,ze]at hlt;exact⟨arr',T',d1,d2,by rw[<-hl];exact d3,λj hj=>(hc j (by omega) hj).2,λj hj=>msv _ _ _ (AV.lt1_lt (hlt _ (zm (by omega)))) (d5 j (by omega)) (hc j (by omega) hj).1,λo=>hF k (by unfold On;rw[hk];trivial) o (d6 o)⟩
  |same=>
  cases ob with
  |cells size c=>
   obtain⟨arr,T,e1,e2,e3,e4,e5,e6⟩:=hob;simp only[Ob.lt,ze]at hlt;exact⟨arr,T,e1,e2,e3,e4,λj hj=>(e5 j hj).ext1 (hE σ.nx) (hlt _ (zm hj)),λo=>hF k (by unfold On;rw[hk];trivial) o (e6 o)⟩
  |tail t b=>
   refine⟨λhh=>?_,hob.2⟩;obtain⟨arr,u,e1,e2,e3,e4⟩:=hob.1 hh;exact⟨arr,u,e1,e2,e3,λo ho=>hF k (by unfold On;rw[hk];exact hh) o (e4 o ho)⟩
  |vec t' sz' es' f'=>exact ZM.mono hob f1 rfl rfl rfl rfl (λ_=>rfl) (λhh o ho=>hF k (by unfold On;rw[hk];exact hh) o ho)
  |tag m t'=>exact hob
  |frame sz' l=>
   simp only[Ob.lt,ze]at hlt;exact⟨hob.1,λs v hs=>(hob.2 s v hs).ext (hE σ.nx) (hlt _ (Qb hs))⟩
  |loop k' ps asg body st pd=>exact hob
  |mp b ag tp l=>exact ZQ.mono hob f1 rfl rfl rfl rfl (λ_=>rfl) (λhh o ho=>hF k (by unfold On;rw[hk];exact hh) o ho)
 ·have h:ZL g n size arr b o=some v:=h;unfold ZL at h;by_cases hb:b=g.blk n
  ·subst hb;exact .inr (hst.inv.own n hon)
  ·rw [if_neg hb]at h;exact hst.inv.fnew b o v h
def QOk(n size:Nat)(c:List AV)(mem:List (Nat×Ob)):List (Nat×Ob)->Prop
 |[]=>True
 |(k,v)::t=>((!Nat.beq k n)=true/\∃u,look k mem=some u/\MsO n size c u v)/\QOk n size c mem t
theorem QOk.at{n size:Nat}{c:List AV}{mem:List (Nat×Ob)}:∀ {l:List (Nat×Ob)},QOk n size c mem l->∀k v,look k l=some v->k≠n/\∃u,look k mem=some u/\MsO n size c u v
 |(a,b)::t,h,k,v,hk=>by
  rw[QC]at hk;by_cases hka:k=a
  ·subst hka;rw[if_pos rfl]at hk;obtain rfl:=za hk;refine⟨λe=>?_,h.1.2⟩;have:=h.1.1;rw[e,wc]at this;cases this
  ·rw [if_neg hka]at hk;exact QOk.at h.2 k v hk
theorem Wk.frzMsOL(n size:Nat)(c:List AV)(hm:look n σ.mem=some (.cells size c))(hs:MsL n size c σ.sl τ.sl)(hmem:QOk n size c σ.mem τ.mem)(hok:τ.ok=true):Wk N σ τ:=Wk.frzMsO hm hs.at hmem.at hok
theorem MsO.first{v:AV}(h:MsV n size c u v)(hv:v.sc=true)(hl:∀x∈l,x.sc=true):MsO n size c (.cells sz (u::l)) (.cells sz (v::l)):= .cells _ _ _ rfl λj h1 h2=>by
 cases j with
 |zero=>exact⟨h,hv⟩
 |succ j=>exact⟨.inl rfl,hl _ (zm (by simpa using h2))⟩
end
section
variable {P:Program} {ti:Nat->Option Ty} {N:Nat} {σ:S} {o:Oper} {K:S->Prop}
def QAb:List (List D×D)->List D->Nat
 |[],_=>0
 |(k,_)::t,x=>bif Xg k x then 0 else QAb t x+1
def QKB:List (List D×D)->Nat->D->List (List D×D)
 |[],_,_=>[]
 |(k,_)::t,0,v=>(k,v)::t
 |p::t,i+1,v=>p::QKB t i v
theorem QLO:∀ {a b tp:List D},Q1 tp a=true->Q1 tp b=true->(Xg a b=true↔a=b)
 |[],[],_,_,_=>by simp[Xg]
 |[],_::_,[],h,h'=>by simp[Q1]at h'
 |[],_::_,_::_,h,h'=>by simp[Q1]at h
 |_::_,[],[],h,h'=>by simp[Q1]at h
 |_::_,[],_::_,h,h'=>by simp[Q1]at h'
 |x::a,y::b,[],h,h'=>by simp[Q1]at h
 |x::a,y::b,z::tp,h,h'=>by
  simp only[Q1,zf]at h h';have ih:=QLO h.2 h'.2;have hxy:eqD x y=true↔x=y:=by
   cases z<;>cases x<;>simp only[JP,yw,false_and,decide_eq_true_eq]at h<;>first|(exact h.1.elim;done)|skip
   all_goals (cases y<;>simp only[JP,yw,false_and,decide_eq_true_eq]at h'<;>first|(exact h'.1.elim;done)|skip)
   ·simp [eqD]
   ·obtain rfl:=h.1;obtain rfl:=h'.1;simp[eqD]
   ·simp [eqD]
  simp only[Xg,zf,hxy,ih,List.cons.injEq]
theorem QF8:∀ {a b tp:List D},Q1 tp a=true->Q1 tp b=true->Yg b a=Xg a b
 |[],[],_,_,_=>rfl
 |[],_::_,[],h,h'=>by simp[Q1]at h'
 |[],_::_,_::_,h,h'=>by simp[Q1]at h
 |_::_,[],[],h,h'=>by simp[Q1]at h
 |_::_,[],_::_,h,h'=>by simp[Q1]at h'
 |x::a,y::b,[],h,h'=>by simp[Q1]at h
 |x::a,y::b,z::tp,h,h'=>by
  simp only[Q1,zf]at h h';show(eqD y x&&Yg b a)=(eqD x y&&Xg a b);rw[QF8 h.2 h'.2];congr 1;cases x<;>cases y<;>simp only[eqD]<;>rw[x8]<;>simp only[beq_iff_eq]<;>exact eq_comm
theorem QSf{x:D}{u:Value}(hl:JP z x=true)(h:DR F x u)(h':DR F x v):u=v:=by
 cases z<;>cases x<;>simp only[JP,yw]at hl<;>first|(cases hl;done)|(cases h;cases h';rfl)
theorem QQj{c:List D}(h:Xz F true tp c v)(h':Xz F true tp c v'):v=v':=by
 obtain⟨hl,h⟩:=h;obtain⟨_,h'⟩:=h';rw[if_pos rfl]at h h';obtain⟨vs,rfl,h1,h2⟩:=h;obtain⟨ws,rfl,h3,h4⟩:=h';congr 1;refine Array.ext (by omega) λi hi hi'=>?_;have lk:∀(tp c:List D) (j:Nat),Q1 tp c=true->∀h:j<c.length,∃z,JP z c[j]=true:=by
  intro tp;induction tp with
  |nil=>intro c j hl h;cases c with
   |nil=>cases h
   |cons=>simp[Q1]at hl
  |cons z tp ih=>
   intro c j hl h;cases c with
   |nil=>cases h
   |cons y c=>
    simp only[Q1,zf]at hl;cases j with
    |zero=>exact⟨z,hl.1⟩
    |succ j=>exact ih c j hl.2 (by simpa using h)
 obtain⟨z,hz⟩:=lk tp c i hl (by omega);have e1:=h2 i (by omega);have e2:=h4 i (by omega);have:=QSf hz e1 e2;simpa [Array.getD,hi,hi']using this
structure Y8(P:Program)(ke:TypeId)(tp:List D):Prop where
 chk:∀F kx q,Xz F true tp kx q->∀em w,(Instr.checkKey em 10000 ke q).run P w= .ok () w
 eq:∀F a b u v,Xz F true tp a u->Xz F true tp b v->∀w,(Op.equal ke v u).run P w= .ok (Xg a b) w
 now:∃d,P.underlying ke=some d/\∀a b,Instr.sameNow d (.agg a) b=none
theorem Y8.fnd{ke:TypeId}{tp kx:List D}{q:Value}(hF:Y8 P ke tp){F:Nat->Nat->Option Value}(hk:Xz F true tp kx q)(w:World):∀(l:List (List D×D)) (es:List MapEntry) (i:Nat),QCG F true tp l es->
  (ZU l kx=none/\(Instr.findAsking ke q es i).run P w= .ok none w)\/
  (∃z e,ZU l kx=some z/\(Instr.findAsking ke q es i).run P w= .ok (some (i+QAb l kx,e.val)) w/\es[QAb l kx]? =some e/\e.key=q/\DR F z e.val)
 |[],[],i,_=> .inl ⟨rfl,by simp[Instr.findAsking]⟩
 |[],_::_,_,h=>h.elim
 |_::_,[],_,h=>h.elim
 |(k,z)::l,e::es,i,h=>by
  obtain⟨⟨h1,h2⟩,h3⟩:=h;have he:=hF.eq F k kx e.key q h1 hk w;cases hb:Xg k kx with
  |true=>
   rw[hb]at he;have hkk:k=kx:=(QLO h1.1 hk.1).1 hb;subst hkk;refine .inr ⟨z,e,by simp[ZU,hb],by simp[Instr.findAsking,he,QAb,hb],by simp[QAb,hb],QQj h1 hk,h2⟩
  |false=>
   rw[hb]at he;rcases Y8.fnd hF hk w l es (i+1) h3 with⟨a1,a2⟩|⟨z',e',a1,a2,a3,a4,a5⟩
   ·exact .inl ⟨by simp[ZU,hb,a1],by simp[Instr.findAsking,he,a2]⟩
   ·refine .inr ⟨z',e',by simp[ZU,hb,a1],by simp[Instr.findAsking,he,a2,QAb,hb];omega,by simp[QAb,hb,a3],a4,a5⟩
theorem Y8.find{ke:TypeId}(hF:Y8 P ke tp)(hk:Xz F true tp kx q)(w:World)(l:List (List D×D))(es:List MapEntry)(h:QCG F true tp l es):
  (ZU l kx=none/\(Instr.findKey ke q es).run P w= .ok none w)\/
  (∃z e,ZU l kx=some z/\(Instr.findKey ke q es).run P w= .ok (some (QAb l kx,e.val)) w/\es[QAb l kx]? =some e/\e.key=q/\DR F z e.val):=by
 obtain⟨d,hd,hno⟩:=hF.now;have hq:∃a,q= .agg a:=by
  have:=hk.2;rw[if_pos rfl]at this;obtain⟨a,e,_⟩:=this;exact⟨a,e⟩
 obtain⟨qa,rfl⟩:=hq;have key:(Instr.findKey ke (.agg qa) es).run P w=(Instr.findAsking ke (.agg qa) es 0).run P w:=by
  cases es with
  |nil=>simp[Instr.findKey,run_underlying hd,Instr.findNow,Instr.findAsking,Result.andThen]
  |cons e t=>simp[Instr.findKey,run_underlying hd,Instr.findNow,hno,Result.andThen]
 rw[key];have:=hF.fnd hk w l es 0 h;simpa using this
theorem QMG(hk:Xz F true tp kx q)(w:World):(Instr.keyThatStays q q).run P w= .ok q w:=by
 obtain⟨hl,h⟩:=hk;rw[if_pos rfl]at h;obtain⟨vs,rfl,hs,hd⟩:=h;have hb:Instr.sameBits 10000 (.agg vs) (.agg vs)=true:=by
  show(vs.size==vs.size&&(vs.toList.zip vs.toList).all fun(x,y)=>Instr.sameBits 9999 x y)=true;rw[beq_self_eq_true,wz,ze];intro p hp;obtain⟨i,hi,rfl⟩:=v6 hp;simp only[List.getElem_zip];have hi':i<vs.size:=by simpa using hi
  have lk:∀(tp c:List D) (j:Nat),Q1 tp c=true->∀h:j<c.length,∃z,JP z c[j]=true:=by
   intro tp;induction tp with
   |nil=>intro c j hl h;cases c with
    |nil=>cases h
    |cons=>simp[Q1]at hl
   |cons z tp ih=>
    intro c j hl h;cases c with
    |nil=>cases h
    |cons y c=>
     simp only[Q1,zf]at hl;cases j with
     |zero=>exact⟨z,hl.1⟩
     |succ j=>exact ih c j hl.2 (by simpa using h)
  obtain⟨z,hz⟩:=lk tp kx i hl (by omega);have h1:=hd i (by omega);have h2:vs.getD i undef=vs.toList[i]:=by simp[Array.getD,hi']
  rw[h2]at h1;generalize vs.toList[i]=v at h1⊢;generalize kx[i]=d at h1 hz;cases z<;>cases d<;>simp only[JP,yw]at hz<;>first|(cases hz;done)|(cases h1;simp[Instr.sameBits,MapKept.bytes_beq])
 simp[Instr.keyThatStays,hb]
theorem QIu(hk:Xz F true tp kx q)(hz:DR F z zv):∀ {l:List (List D×D)} {es:List MapEntry},QCG F true tp l es->QCG F true tp (l++[(kx,z)]) (es++[{key:=q,val:=zv,born:=ck}])
 |[],[],_=>⟨⟨hk,hz⟩,trivial⟩
 |[],_::_,h=>h.elim
 |_::_,[],h=>h.elim
 |p::l,e::es,h=>⟨h.1,QIu hk hz h.2⟩
theorem QIv{F:Nat->Nat->Option Value}{tp:List D}{vx:D}{s:Value}(hv:DR F vx s):∀ {l:List (List D×D)} {es:List MapEntry} (i:Nat) (e:MapEntry),QCG F true tp l es->es[i]? =some e->QCG F true tp (QKB l i vx) (es.set i {e with val:=s})
 |[],[],_,_,_,h=>by simp at h
 |[],_::_,_,_,h,_=>h.elim
 |_::_,[],_,_,h,_=>h.elim
 |(k,z)::l,e'::es,0,e,h,he=>by
  obtain rfl:e'=e:=by simpa using he
  exact⟨⟨h.1.1,hv⟩,h.2⟩
 |(k,z)::l,e'::es,i+1,e,h,he=>⟨h.1,QIv hv i e h.2 (by simpa using he)⟩
theorem QLP{cs:List D}(h:AVR g (.dg k cs) q)(hl:Q1 tp cs=true):Xz g.F true tp cs q:=by
 cases h with|dg _ _ xs a1 a2 a3=>?_
 exact⟨hl,by rw[if_pos rfl];exact⟨xs,rfl,by omega,λj hj=>a3 j hj⟩⟩
theorem OpX.lookupA{kk:Nat}{x i:Operand}{r:D}{l:List (List D×D)}(hop:o.op= .lookup t x i false)(hd:o.dst=some d)(ht:P.underlying t=some (.map ke ee))(hF:Y8 P ke tp)
  (hz:∀w,(zeroValue ee).run P w= .ok zv w) (hzd:∀F,DR F zd zv) (hx:ρ σ.sl x=some (.mp n)) (hm:look n σ.mem=some (.mp b true tp l)) (hi:ρ σ.sl i=some (.dg kk kx)) (hl:Q1 tp kx=true) (hr:(match ZU l kx with|some v=>v|none=>zd)=r)
  (hK:K ⟨(d,.d r)::σ.sl,σ.mem,σ.nx⟩):OpX P N o σ K:=by
 refine⟨λhdN κ g a w hst next Q hn=>?_⟩;have hx':=ρ_ok hst.sl hx;generalize ha:a.eval x=p at hx';cases hx' with|mp _ q hq=>?_
 have hi':=ρ_ok hst.sl hi;generalize hb:a.eval i=q at hi';have hkey:=QLP hi' hl;have hob:=hst.inv.obs n _ hm;have key:∃v,(execOp a.eval o).run P w= .ok (.value v) w/\DR g.F r v:=by
  cases hh:g.has n with
  |false=>
   rw[hh,if_neg (by decide)]at hq;subst hq;have hl0:=hob.2.1 hh;subst hl0;have hr:zd=r:=hr;refine⟨zv,?_,hr▸hzd _⟩;rcases hF.find hkey w [] [] trivial with⟨_,hf⟩|⟨_,_,h,_⟩
   ·simp [execOp,hop,ha,hb,Instr.lookup,run_underlying ht,hF.chk _ _ _ hkey,hf,hz,Result.andThen]
   ·cases h
  |true=>
   rw[hh,if_pos rfl]at hq;subst hq;obtain⟨es,ck,h1,h2,h4⟩:=ZQ.rel hob hh;rcases hF.find hkey w l es.toList h2 with⟨a1,a2⟩|⟨z',e',a1,a2,_,_,a5⟩
   ·rw [a1]at hr;refine⟨zv,?_,hr▸hzd _⟩;simp[execOp,hop,ha,hb,Instr.lookup,run_underlying ht,wn h1,hF.chk _ _ _ hkey,a2,hz,Result.andThen]
   ·rw [a1]at hr;refine⟨e'.val,?_,hr▸a5⟩;simp[execOp,hop,ha,hb,Instr.lookup,run_underlying ht,wn h1,hF.chk _ _ _ hkey,a2,Result.andThen]
 obtain⟨v,hrun,hv⟩:=key;refine Qc hrun (hn g _ _ _ hK ?_);rw[hd];exact hst.put (hdN _ hd) (Ext.refl _ _) hst.inv (.d _ _ hv) (S.ok_cons hst.ok (zt _) rfl (S.ok_memAll hst.ok))
end
section
variable {P:Program}
def plainT(P:Program)(e:TypeId):Bool:=match P.underlying e with
 |some .bool|some (.int _)|some .string=>true
 |_=>false
def QSg(P:Program)(t:TypeId)(n:Nat):Bool:=match P.underlying t with
 |some (.struct fs)=>fs.toList.all λf=>plainT P f.type&&Nat.blt f.offset n
 |_=>false
theorem QMH{e:TypeId}(h:plainT P e=true)(em:Bool)(n:Nat)(a:Value)(w:World):(Instr.checkKey em (n+1) e a).run P w= .ok () w:=by
 unfold plainT at h;unfold Instr.checkKey;cases hu:P.underlying e with
 |none=>rw[hu]at h;cases h
 |some k=>
  rw[hu]at h;simp only[zp,run_underlying hu,zg];cases k<;>simp only[yw]at h<;>first|(cases h;done)|(cases a<;>rfl)
theorem QKC{e:TypeId}(h:plainT P e=true)(xs:Array Value)(o:Nat)(ho:o<xs.size)(w:World):∃a,(part e xs o).run P w= .ok a w:=by
 unfold plainT at h;cases hu:P.underlying e with
 |none=>rw[hu]at h;cases h
 |some k=>
  rw[hu]at h;refine⟨xs.getD o undef,?_⟩;have ha:(XU k).agg=false:=by cases k<;>simp only[yw]at h<;>first|(cases h;done)|rfl
  simp only[part,zp,Jt hu,zg,ha,yw,if_false];simp[ho,Array.getD]
theorem QKD{t:TypeId}(hk:QSg P t n=true)(em:Bool)(m:Nat)(xs:Array Value)(hx:xs.size=n)(w:World):(Instr.checkKey em (m+1+1) t (.agg xs)).run P w= .ok () w:=by
 unfold QSg at hk;cases hu:P.underlying t with
 |none=>rw[hu]at hk;cases hk
 |some k=>
  rw[hu]at hk;cases k<;>simp only[yw]at hk<;>first|(cases hk;done)|skip
  rename_i fs;rw[Instr.checkKey];simp only[zp,run_underlying hu,zg];rw[<-Array.forIn_toList];have each:∀f∈fs.toList,plainT P f.type=true/\f.offset<n:=λf hf=>by
   have:=ze.1 hk f hf;simpa using this
  clear hk hu;generalize fs.toList=L at each;induction L with
  |nil=>simp
  |cons f L ih=>
   obtain⟨h1,h2⟩:=each f (by simp);obtain⟨a,ha⟩:=QKC h1 xs f.offset (by omega) w;have hc:=QMH h1 em m a w;by_cases hn:f.name≠ "_"
   ·simp only[Wz,zp,hn,ne_eq,not_false_eq_true,if_true,zg,ha,hc,zq];exact ih λy hy=>each y (by simp[hy])
   ·simp only[Wz,zp,hn,if_false,zg,zq];exact ih λy hy=>each y (by simp[hy])
theorem Y8.struct{t:TypeId}{fs:Array Field}(hu:P.underlying t=some (.struct fs))(hz:QEO P 6 t=some tp)(hk:QSg P t tp.length=true):Y8 P t tp:=by
 have lk:∀ {tp c:List D},Q1 tp c=true->tp.length=c.length:=by
  intro tp;induction tp with
  |nil=>intro c h;cases c with
   |nil=>rfl
   |cons=>simp[Q1]at h
  |cons z tp ih=>
   intro c h;cases c with
   |nil=>simp[Q1]at h
   |cons y c=>simp only[Q1,zf]at h;simp[ih h.2]
 refine⟨λF kx q h em w=>?_,λF a b u v h h' w=>?_,⟨_,hu,λa b=>rfl⟩⟩
 ·obtain ⟨hl,h⟩:=h;rw[if_pos rfl]at h;obtain⟨vs,rfl,h1,_⟩:=h;exact QKD hk em 9998 vs (by rw[h1,lk hl]) w
 ·obtain ⟨hl,h⟩:=h;obtain⟨hl',h'⟩:=h';rw[if_pos rfl]at h h';obtain⟨xs,rfl,x1,x2⟩:=h;obtain⟨ys,rfl,y1,y2⟩:=h';obtain⟨u',i',e1,e2,e3,e4,e5⟩:=QB0 6 t tp hz;obtain⟨j1,j2,j3,j4,j5⟩:=QJd (F:=F) (xs:=ys) (ys:=xs) (o:=0) hl' hl (by simpa using y2) (by simpa using x2);have hagg:(XU u').agg=true:=by
   have:some u'=some (.struct fs):=e1.symm.trans hu;rw[za this];rfl
  have:=e5 10000 (by omega) ys xs (by rw[y1,lk hl']) (by rw[x1,lk hl]) j1 j2 w;rw[hagg,j3,QF8 hl hl']at this;show(Op.equalIn Op.maxDepth t (.agg ys) (.agg xs)).run P w=_;exact this
end
section
variable {P:Program} {ti:Nat->Option Ty} {N:Nat} {σ:S} {o:Oper} {K:S->Prop}
inductive MsA(n size:Nat)(c:List AV):AV->AV->Prop
 |now{u v:AV}(h:MsV n size c u v):MsA n size c u v
 |ag(m:Nat)(us vs:List AV)(h1:us.length=vs.length)(h2:∀j (h:j<us.length) (h':j<vs.length),MsV n size c us[j] vs[j]/\vs[j].sc=true):MsA n size c (.ag m us) (.ag m vs)
theorem CallI.byRL{es:List (List D)}(hl:ArF σ.mem l l')(hf:FnC P f l' (.d (.fs sz es)))(h0:es=[]->K (σ.put o.dst (.d (.fs sz []))))
  (h1:∀off cap,0<es.length->K (S.put ⟨σ.sl,σ.mem,σ.nx+1⟩ o.dst (.ms sz σ.nx off es.length cap))):CallI P N o σ f l K:=by
 refine⟨fun⟨⟨x,xs,ats,first,cap,l1,hop,hx,hl1,hll⟩,hd⟩ κ g a w hst next Q hn=>?_⟩;obtain⟨vs,ws,hev,hsz,hav⟩:=Yr hst hx hl1;rw[<-hll]at hsz;have hexec:(execOp a.eval o).run P w=(callFunc f (vs++xs.map a.eval++ws)).run P w:=by
  simp only[execOp,hop,resolve,hev,Deferred.ofValue,pure_bind,invoke]
 have hmem:∀n ob,look n σ.mem=some ob->n<σ.nx/\ob.lt σ.nx=true:=λn ob h=>S.ok_mem hst.ok h;have fin:∀v w' (g1:Gh),AVR g1 (.d (.fs sz es)) v->w.heap.size<=w'.heap.size->(∀b,b<w.heap.size->w'.heap[b]? =w.heap[b]?)->(∀b o v,g.F b o=some v->w'.cell? ⟨b,o,none⟩=some v)->w'.os=w.os->w'.tape=w.tape->w'.output=w.output->next (a.put o.dst v) w':=by
  intro v w' g1 hv q1 q2 q0 q3 q4 q5;have hI:Inv κ g σ.mem w':=hst.inv.grow hmem (.refl _ _) q1 q2 (λb o v h=> .inl h) q0 q3 q4 q5;have hst':St κ N g σ a w':=⟨hst.size,hst.defers,hst.sl,hI,hst.ok⟩;cases hv with|d _ _ hv=>?_
  cases hv with
  |fs0 _ ad c=>
   refine hn g _ _ _ (h0 rfl) ?_;cases hdst:o.dst with
   |none=>exact hst'
   |some d=>exact hst'.put (hd d hdst) (.refl _ _) hI (.d _ _ (.fs0 _ _ _)) (S.ok_cons hst'.ok (zt _) rfl (S.ok_memAll hst'.ok))
  |fs _ _ b off len c vs' e1 e2 e3 e4 e5=>
   by_cases hz:0<es.length
   ·let g':Gh:= {g with blk:=λn=>if n=σ.nx then b else g.blk n}
    have he:Ext σ.nx g g':=⟨λ_ _ _ h=>h,λn hn=>if_neg (by omega),λ_ _=>rfl,λ_ _=>rfl,λ_ _=>rfl⟩;have hI':Inv κ g' σ.mem w':=hI.grow hmem he (zt _) (λ_ _=>rfl) (λb o v h=> .inl h) q0 rfl rfl rfl;have hok:(S.mk σ.sl σ.mem (σ.nx+1)).ok=true:=by
     rw[S.ok_iff];obtain⟨k1,k2⟩:=S.ok_iff.1 hst.ok;exact⟨λp hp=>AV.lt_mono (k1 p hp) (y3 _),λp hp=>⟨wm (k2 p hp).1,Ob.lt_mono (k2 p hp).2 (y3 _)⟩⟩
    subst e1;refine hn g' _ _ _ (h1 off c hz) ?_;have hbv:AVR g' (.ms sz σ.nx off es.length c) (.slice (some ⟨b,off,none⟩) es.length c):= .ms _ _ _ _ _ _ (λ_=>by
     show some _=some (⟨if σ.nx=σ.nx then b else g.blk σ.nx,off,none⟩:Addr);rw[if_pos rfl]) e2
    have hst2:St κ N g' ⟨σ.sl,σ.mem,σ.nx+1⟩ a w':=⟨hst.size,hst.defers,λk v hk=>(hst.sl k v hk).ext he (S.ok_sl hst.ok hk),hI',hok⟩;cases hdst:o.dst with
    |none=>exact hst2
    |some d=>exact hst2.put (hd d hdst) (.refl _ _) hI' hbv (S.ok_cons hok (zt _) (by simp[AV.lt,AV.lt2,AV.lt1,AV.lt0]) (S.ok_memAll hok))
   ·have:es=[]:=yx.1 (by omega);subst this;have e1:0=len:=e1;subst e1;refine hn g _ _ _ (h0 rfl) ?_;cases hdst:o.dst with
    |none=>exact hst'
    |some d=>exact hst'.put (hd d hdst) (.refl _ _) hI (.d _ _ (.fs0 _ _ _)) (S.ok_cons hst'.ok (zt _) rfl (S.ok_memAll hst'.ok))
 obtain⟨k1,k2⟩:=QGq hl;have hrun:=hf.run {g with F:=λb o=>w.cell? ⟨b,o,none⟩} w (vs++xs.map a.eval++ws) (λ_ _ _ h=>h) (κ.gl.mono λb o v h=>hst.inv.frz _ _ _ (hst.inv.f0 _ _ _ h)) (by rw[hsz,k1]) (λj hj=>by
   have h1:=hav j (by rw[<-hll];omega);have e:(first++l1++cap)[j]'(by rw[<-hll];omega)=l[j]'(by omega):=by simp only[<-hll]
   rw[e]at h1;exact k2 hst.inv j (by omega) hj _ h1)
 have fin2:∀e w',(∃v g1,e=Ending.returned v/\AVR g1 (.d (.fs sz es)) v/\(∀b o v,w.cell? ⟨b,o,none⟩=some v->g1.F b o=some v)/\
   (∀b o v,g1.F b o=some v->w.cell? ⟨b,o,none⟩=some v\/w.heap.size<=b)/\(∀b o v,g1.F b o=some v->w'.cell? ⟨b,o,none⟩=some v)/\
   w.heap.size<=w'.heap.size/\(∀b,b<w.heap.size->w'.heap[b]? =w.heap[b]?)/\w'.os=w.os/\w'.tape=w.tape/\w'.output=w.output)->∃v,e= .returned v/\next (a.put o.dst v) w':=by
  rintro e w' ⟨v,g1,rfl,p1,p2,p3,p4,p5,p6,p7,p8,p9⟩;exact⟨v,rfl,fin v w' g1 p1 p5 p6 (λb o v h=>p4 _ _ _ (p2 _ _ _ (hst.inv.frz b o v h))) p7 p8 p9⟩
 rcases hrun with⟨hrun,hc⟩|⟨v',w',hrun,hc⟩
 ·exact YL (hexec.trans hrun) (hc.mono λe w' he=>fin2 e w' he)
 ·obtain ⟨v,h1,h2⟩:=fin2 _ _ hc;obtain rfl:v'=v:=by injection h1
  exact Qc (hexec.trans hrun) h2
end
end Go.Sy
