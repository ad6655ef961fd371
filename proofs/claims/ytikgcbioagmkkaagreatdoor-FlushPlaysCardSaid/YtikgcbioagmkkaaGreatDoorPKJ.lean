/- Contracts of the functions that the law reaches, and the law. Conditions: none. -/
import Derived.Test.YtikgcbioagmkkaaGreatDoorPKL
import Derived.Test.YtikgcbioagmkkaaGreatDoorPSC
import Derived.Test.YtikgcbioagmkkaaGreatDoorCards
import Derived.Test.YtikgcbioagmkkaaGreatDoorTie
set_option maxRecDepth 100000
set_option linter.all false
set_option maxHeartbeats 16000000
namespace Go.Proofs.YtikgcbioagmkkaaGreatDoor
open Go.Sy Go.ChangeShapes Go.WideShapes Go.ChangeAt Go.RowKit
def plainT:List Nat:=[5,37,22,3,9,30,31,33,23]
theorem closed:QGx ti plainT=true:=by decide+kernel
variable {n:Nat}
variable {ds:List D}
theorem QHw(h:Shp ti n 5 ds):∃b:UInt8,ds=[.it .u8 b.toNat]:=by
 match n,h with
 |n+1,h=>
  obtain⟨z,rfl,h1,h2⟩:=h;have h1':(0:Int)<=z:=h1;have h2':z<=255:=h2;refine⟨QCL z,?_⟩;rw[QBf om]
theorem QFZ{n:Nat}:∀ {m:Nat} {ds:List D},QQS (Shp ti n 5) m ds->∃s:List UInt8,s.length=m/\ds=QF s
 |0,ds,h=>⟨[],rfl,h⟩
 |m+1,ds,h=>by
  obtain⟨a,b,rfl,h1,h2⟩:=h;obtain⟨c,rfl⟩:=QHw h1;obtain⟨s,hs,rfl⟩:=QFZ h2;exact⟨c::s,by simp[hs],rfl⟩
theorem QPv(h:Shp ti n 37 ds):∃s:List UInt8,s.length=32/\ds=QF s:=by
 match n,h with
 |n+1,h=>exact QFZ (n:=n) (m:=32) h
theorem QHx{n:Nat}:∀ {es:List (List D)},(∀x∈es,Shp ti n 37 x)->∃m:List (List UInt8),XL m/\es=m.map QF
 |[],_=>⟨[],(λs hs=>by cases hs),rfl⟩
 |x::es,h=>by
  obtain⟨s,hs,rfl⟩:=QPv (h x zo);obtain⟨m,hm,rfl⟩:=QHx (λy hy=>h y (zk _ hy));refine⟨s::m,λt ht=>?_,rfl⟩;rcases zi.1 ht with rfl|ht
  ·exact hs
  ·exact hm t ht
variable {x:D}
theorem QPw(h:Shp ti n 22 [x]):∃m:List (List UInt8),XL m/\x=Q9 m:=by
 match n,h with
 |n+1,h=>
  obtain⟨es,hl,_,he⟩:=h;obtain⟨m,hm,rfl⟩:=QHx he;exact⟨m,hm,by simpa using hl⟩
theorem QGY(h:Shp ti n 3 ds):∃z:Int,ds=[.it .i64 z]:=by
 match n,h with
 |n+1,h=>
  obtain⟨z,rfl,_⟩:=h;exact⟨z,rfl⟩
theorem QHy{n:Nat}:∀ {es:List (List D)},(∀x∈es,Shp ti n 3 x)->∃l:List Int,es=vI l
 |[],_=>⟨[],rfl⟩
 |x::es,h=>by
  obtain⟨z,rfl⟩:=QGY (h x zo);obtain⟨m,rfl⟩:=QHy (λy hy=>h y (zk _ hy));exact⟨z::m,rfl⟩
theorem QRp(h:Shp ti n 31 ds):∃l:List Int,ds=[.fs 1 (vI l)]:=by
 match n,h with
 |n+1,h=>
  obtain⟨es,hl,_,he⟩:=h;obtain⟨m,rfl⟩:=QHy he;exact⟨m,hl⟩
theorem QKj{n:Nat}:∀ {es:List (List D)},(∀x∈es,Shp ti n 5 x)->∃l:List UInt8,es=QD l
 |[],_=>⟨[],rfl⟩
 |x::es,h=>by
  obtain⟨z,rfl⟩:=QHw (h x zo);obtain⟨m,rfl⟩:=QKj (λy hy=>h y (zk _ hy));exact⟨z::m,rfl⟩
theorem QPx(h:Shp ti n 30 ds):∃l:List UInt8,ds=[.fs 1 (QD l)]:=by
 match n,h with
 |n+1,h=>
  obtain⟨es,hl,_,he⟩:=h;obtain⟨m,rfl⟩:=QKj he;exact⟨m,hl⟩
theorem QKk(h:Shp ti n 9 ds):∃s:List UInt8,ds=[.st s]:=by
 match n,h with
 |n+1,h=>
  obtain⟨s,hl,_⟩:=h;exact⟨s,hl⟩
theorem QPy(h:Shp ti n 33 ds):∃a:Act,ds=ZV a:=by
 match n,h with
 |n+1,h=>
  obtain⟨_,_,rfl,h1,_,_,rfl,h2,_,_,rfl,h3,_,_,rfl,h4,_,_,rfl,h5,_,_,rfl,h6,rfl⟩:=h;obtain⟨k,rfl⟩:=QGY h1;obtain⟨p,rfl⟩:=QKk h2;obtain⟨q,rfl⟩:=QKk h3;obtain⟨m,rfl⟩:=QGY h4;obtain⟨b,rfl⟩:=QPx h5;obtain⟨c,rfl⟩:=QRp h6;exact⟨⟨k,p,q,m,b,c⟩,rfl⟩
theorem QHz{n:Nat}:∀ {es:List (List D)},(∀x∈es,Shp ti n 33 x)->∃l:List Act,es=l.map ZV
 |[],_=>⟨[],rfl⟩
 |x::es,h=>by
  obtain⟨a,rfl⟩:=QPy (h x zo);obtain⟨m,rfl⟩:=QHz (λy hy=>h y (zk _ hy));exact⟨a::m,rfl⟩
theorem QRq(h:Shp ti n 23 [x]):∃l:List Act,x= .fs 6 (l.map ZV):=by
 match n,h with
 |n+1,h=>
  obtain⟨es,hl,_,he⟩:=h;obtain⟨l,rfl⟩:=QHz he;exact⟨l,by simpa using hl⟩
theorem own:ownKnob Tryz.prog.godebug=none:=by kernel_rfl
theorem laidOut:laidOutB Tryz.prog=true:=by kernel_rfl
namespace tells
theorem contract(H:Type)(enc:TypeId×Value->H)(W:World)(base:Nat)(args:Array Value)(ds gs:List (DataW H))(before:List MemPlace)
  (hval:∀(j:Nat) t v,Tryz.f4.params[j]? =some t->args[j]? =some v->Value.okWide Tryz.prog W .any base t v)
  (hW:DataW.Whole enc Tryz.prog Tryz.f4.params.toList Rows.flushPlaysSpec.vars false W args.toList ds gs before):
  Calls Tryz.prog 4 args W λe W'=>∃v,e= .returned v/\Rows.flushPlaysSpec.post enc Tryz.prog Tryz.f4 false true false false W args v W':=by
 have hW':=hW;obtain⟨p,q,hA,hV,rfl,_,_⟩:=hW;have hA':DataW.TrodAll enc Tryz.prog W 0 (λ_=>true) true [22,23] args.toList ds p:=hA;obtain⟨v0,_,d0,_,p0,_,e0,rfl,_,h0,hA1⟩:=trodAll_cons hA';obtain⟨v1,_,d1,_,p1,_,rfl,rfl,_,h1,hA2⟩:=trodAll_cons hA1;obtain⟨rfl,rfl,_⟩:=trodAll_nil hA2;obtain rfl:args= #[v0,v1]:=by cases args;simp_all
 obtain⟨rfl,rfl⟩:=trodVars_none hV;obtain⟨n0,x0,s0,a0⟩:=QK9 QB closed (t:=22) (by decide) (ty:=_) rfl rfl (hval 0 22 v0 rfl rfl) h0;obtain⟨n1,x1,s1,a1⟩:=QK9 QB closed (t:=23) (by decide) (ty:=_) rfl rfl (hval 1 23 v1 rfl rfl) h1;obtain⟨y0,g0,rfl⟩:=QPw s0;obtain⟨y1,rfl⟩:=QRq s1;refine(FnC.enter (QP5 y0 g0 y1) (Tryz.call4 _ _) (λb hb=>by cases hb) rfl ?_).mono ?_
 ·intro j hj
  match j,hj with
  |0,_=>exact a0
  |1,_=>exact a1
 ·rintro e W' ⟨rfl,hB⟩;exact⟨_,rfl,QOW hW' rfl rfl rfl rfl rfl Tryz.underlying4 laidOut dkk hB⟩
noncomputable def wit:Array Value:= #[.slice none 0 0,.slice none 0 0]
noncomputable def low:Nat:=(World.holding Tryz.prog default ⟨#[],#[],[]⟩).heap.size
noncomputable def laidWorld(os:Os):World:=
 {World.holding Tryz.prog os ⟨#[.cells #[.string ⟨#[98,121,116,101,115,46,66,117,102,102,101,114,58,32,116,111,111,32,108,97,114,103,101]⟩] 358],#[],[]⟩with
  heap:=(QOX (World.holding Tryz.prog os ⟨#[.cells #[.string ⟨#[98,121,116,101,115,46,66,117,102,102,101,114,58,32,116,111,111,32,108,97,114,103,101]⟩] 358],#[],[]⟩).heap [(3,Rows.laid_unicode_utf8_acceptRanges),(2,Rows.laid_unicode_utf8_first)]).modify 0 fun
   | .cells _ t frozen=> .cells #[.iface 344 (.pointer (some ⟨low,0,none⟩))] t frozen
   |o=>o}
theorem laid_met(os:Os):laidMet Tryz.prog Rows.flushPlaysRow.laid ((laidWorld os).forCall (λ_ _=>0) ⟨#[],wit,[]⟩).memory:=
 laidMet_of_run' 8 (by kernel_rfl) (by kernel_rfl)
theorem reads(os:Os){H:Type}(enc:TypeId×Value->H):∃places,DataW.whole enc Tryz.prog ((laidWorld os).forCall (λ_ _=>0) ⟨#[],wit,[]⟩).memory Tryz.f4.params.toList Rows.flushPlaysSpec.vars false wit.toList 8=some ([.nil,.nil],[],places):=
 ⟨[],by kernel_rfl⟩
theorem lifted(os:Os)(started:os.Started)(H:Type)(enc:TypeId×Value->H)(F:Stop.Interp):
  ReturnsInHanded {} Tryz.checked os 4 .any ((OpenSpec.ofChange Rows.flushPlaysSpec).preRow enc Tryz.prog Tryz.f4 Rows.flushPlaysRow.domain false Rows.flushPlaysRow.laid) (((OpenSpec.ofChange Rows.flushPlaysSpec).at F).post enc Tryz.prog Tryz.f4 false true false false):=by
 obtain⟨places,hx⟩:=reads os enc;refine returnsInHanded_of_row (C:=Tryz.checked) (s:=OpenSpec.ofChange Rows.flushPlaysSpec) own started (by kernel_rfl) Tryz.func4
  (witness_row_at (enc:=enc) (C:=Tryz.checked) false (laidWorld os) wit rfl (by kernel_rfl) (by kernel_rfl) (by kernel_rfl)
   (OpenSpec.preRow_of_cond 8 hx (by kernel_rfl) (λk hk=>by cases hk) (by kernel_rfl) (laid_met os))) ?_
 intro W base args ds gs before hval hW _ _ _ _ _ _;exact contract H enc W base args ds gs before hval hW
theorem said:Rows.FlushPlaysSaid:=
 OpenClaim.holds_of_cond 4 Tryz.f4 rfl rfl rfl rfl rfl rfl rfl ⟨rfl,rfl,rfl,rfl,rfl⟩ rfl rfl rfl rfl rfl (by kernel_rfl) Tryz.func4 (by kernel_rfl)
  (of_decide_eq_true (by kernel_rfl)) (by unfold Func.isWrapper;first|(rw[if_pos dkk];kernel_rfl)|(rw[if_neg dkk];exact⟨rfl,rfl⟩))
  (λos started H enc _ F=>by rw[OpenClaim.pre_eq_preRow];exact lifted os started H enc F)
theorem plain(f:FuncId)(fn:Func)(hf:Tryz.pinned.checked.prog.funcNamed "flotsam/flotsamlaw12.FlushPlays" =some f)(hfn:Tryz.pinned.checked.prog.funcs[f]? =some fn):
  false=Tryz.pinned.checked.prog.looks []/\∀(j:Nat) t,fn.params[j]? =some t->Tryz.pinned.checked.prog.wantsStandIn t=false:=by
 obtain rfl:f=4:=Option.some.inj ((show Tryz.prog.funcNamed "flotsam/flotsamlaw12.FlushPlays" =some 4 by kernel_rfl).symm.trans hf)|>.symm;obtain rfl:fn=Tryz.f4:=(Option.some.inj (Tryz.func4.symm.trans hfn)).symm;refine⟨by kernel_rfl,λj t ht=>?_⟩;have hall:∀t∈Tryz.f4.params,Tryz.prog.wantsStandIn t=false:=by decide+kernel
 exact hall t (Array.mem_of_getElem? ht)
theorem card:Rows.FlushPlaysCardSaid:=
 Claim7.holds_tied_plain_at .later [] _ _ _ _ said (λ_ h=>by cases h) (by kernel_rfl) (λ_ h=>by cases h) flushPlays_row_tie rfl ⟨rfl,rfl⟩ (by kernel_rfl) rfl plain (by kernel_rfl)
end tells
end Go.Proofs.YtikgcbioagmkkaaGreatDoor
