/- A computing verification layer for data, proved sound over the library: what a body comes to, by its literal code. Conditions: none. -/
import Derived.Test.YtikgcbioagmkkaaGreatDoorPSA
import Derived.Laws.MakeOwn
import Derived.Scope
set_option maxRecDepth 100000
set_option linter.all false
namespace Go.Sy
def AV.down0(n:Nat):AV->AV
 | .ts sz es m=>bif Nat.beq m n then .d (.fs sz es)else .ts sz es m
 | .ptr m off=>bif Nat.beq m n then .jk else .ptr m off
 | .ms sz m off len cap=>bif Nat.beq m n then .jk else .ms sz m off len cap
 | .yld m=>bif Nat.beq m n then .jk else .yld m
 | .mp m=>bif Nat.beq m n then .jk else .mp m
 | .sd es m=>bif Nat.beq m n then .jk else .sd es m
 | .vx sz m i len=>bif Nat.beq m n then .jk else .vx sz m i len
 | .vq sz m k off=>bif Nat.beq m n then .jk else .vq sz m k off
 |v=>v
def AV.down1(n:Nat):AV->AV
 | .fn f a b=> .fn f (a.map (AV.down0 n)) (b.map (AV.down0 n))
 |v=>v.down0 n
def AV.down2(n:Nat):AV->AV
 | .ag k cs=> .ag k (cs.map (AV.down1 n))
 |v=>v.down1 n
def AV.down(n:Nat):AV->AV
 | .tup vs=> .tup (vs.map (AV.down2 n))
 |v=>v.down2 n
def XJ(n:Nat):List (Nat×AV)->List (Nat×AV)
 |[]=>[]
 |(k,v)::t=>(k,v.down n)::XJ n t
def Ob.down(n:Nat):Ob->Ob
 | .cells size c=> .cells size (c.map (AV.down1 n))
 | .tail t b=> .tail t b
 | .vec t sz es f=> .vec t sz es f
 | .tag m t=>bif Nat.beq m n then .frame 0 []else .tag m t
 | .frame sz l=> .frame sz (XJ n l)
 | .loop k ps asg body st pd=> .loop k ps asg body st pd
 | .mp b ag tp l=> .mp b ag tp l
def ZJ(n:Nat):List (Nat×Ob)->List (Nat×Ob)
 |[]=>[]
 |(k,v)::t=>(k,v.down n)::ZJ n t
def S.put(σ:S)(d:Option Nat)(v:AV):S:=
 match d with
 |some k=>⟨(k,v)::σ.sl,σ.mem,σ.nx⟩
 |none=>σ
def QCc(sz:Nat):AV->Option (List (List D))
 | .d (.st l)=>bif Nat.beq sz 1 then some (QD l)else none
 |v=>match Z5 v with
  |some (k,es)=>bif Nat.beq k sz||es.isEmpty then some es else none
  |none=>none
def X3(ti:Nat->Option Ty)(ats:Array TypeId):Option Ty:=
 match ats[0]?,ats[1]? with
 |some t,some t'=>match ti t,ti t' with
  |some ⟨.slice e,_,_,_,_,_⟩,some ⟨.slice _,_,_,_,_,_⟩=>ti e
  |some ⟨.slice e,_,_,_,_,_⟩,some ⟨.string,_,_,_,_,_⟩=>ti e
  |_,_=>none
 |_,_=>none
def QOF(ti:Nat->Option Ty)(t:Nat):Nat:=
 match ti t with
 |some ⟨.slice e,_,_,_,_,_⟩=>e
 |_=>0
def Q2(ti:Nat->Option Ty)(ats:Array TypeId):Nat:=
 match ats[0]? with
 |some t=>QOF ti t
 |none=>0
def QKy(n:Nat)(mem:List (Nat×Ob)):Bool:=
 match look n mem with
 |some (.tail _ b)=>b
 |_=>false
def QSG(ti:Nat->Option Ty)(t:Nat):Nat:=
 match ti t with
 |some ⟨.slice e,_,_,_,_,_⟩=>match ti e with|some ety=>ety.size|none=>0
 |_=>0
structure QJi(A B:Prop):Prop where
 l:A
 r:B
inductive JD(A B:Prop):Prop
 |ts(h:A)
 |vec(h:B)
inductive Zy(e:List AV)(K:List AV->Prop):Prop
 |mk(l:List AV)(h:l=e)(k:K l)
variable {K:List AV->Prop}
theorem Zy.now{e:List AV}(h:K e):Zy e K:=⟨e,rfl,h⟩
theorem Zy.out{e:List AV}(h:Zy e K):K e:=by obtain⟨l,rfl,k⟩:=h;exact k
def QKz(P:Program)(ti:Nat->Option Ty)(o:Oper)(σ:S)(K:S->Prop):Option Prop:=
 match o.op with
 | .assign (.const (.slice none 0 0))=>match o.dst with
  |some d=>some (JD (K ⟨(d,.ts (QSG ti o.type) [] σ.nx)::σ.sl,(σ.nx,.tail (QOF ti o.type) true)::σ.mem,σ.nx+1⟩) (K ⟨(d,.vx (QSG ti o.type) σ.nx 0 0)::σ.sl,(σ.nx,.vec (QOF ti o.type) (QSG ti o.type) [] false)::σ.mem,σ.nx+1⟩))
  |none=>some False
 | .binOp .eql t x (.const (.slice none 0 0)) _=>match ti t,o.dst,ρ σ.sl x with
  |some ⟨.slice _,_,_,_,_,_⟩,some d,some v=>match Z5 v with
   |some (_,es)=>some (Spl es.isEmpty (QJi (K (σ.put (some d) (.d (.bl true)))) (K (σ.put (some d) (.d (.bl false))))) (K (σ.put (some d) (.d (.bl false)))))
   |none=>none
  |_,_,_=>none
 | .alloc e=>match ti e,o.dst with
  |some ty,some d=>some (bif Nat.beq ty.zero.length ty.size&&Nat.blt 0 ty.size then(match ty.kd with| .struct _=>K ⟨(d,.ptr σ.nx 0)::σ.sl,(σ.nx+1,.tag σ.nx e)::(σ.nx,.cells ty.size (ty.zero.map toA))::σ.mem,σ.nx+2⟩|_=>K ⟨(d,.ptr σ.nx 0)::σ.sl,(σ.nx,.cells ty.size (ty.zero.map toA))::σ.mem,σ.nx+1⟩)else False)
  |_,_=>some False
 | .makeSlice t x y=>match ti t,o.dst,ρ σ.sl x,ρ σ.sl y with
  |some ⟨.slice e,_,_,_,_,_⟩,some d,some (.d (.it _ len)),some (.d (.it _ cap))=>match ti e with
   |some ety=>some (bif Nat.beq ety.zero.length ety.size&&Nat.blt 0 ety.size then(0<=len/\len<=cap/\cap<=281474976710656/\ety.bytes*cap<=281474976710656)/\XO len.toNat λa=>XO cap.toNat λb=>K ⟨(d,.ms ety.size σ.nx 0 a b)::σ.sl,(σ.nx,.cells (b*ety.size) ((Zx b ety.zero).map toA))::σ.mem,σ.nx+1⟩else False)
   |none=>some False
  |_,_,_,_=>some False
 | .box e x=>match ti e,o.dst,ρ σ.sl x with
  |some ty,some d,some v=>match XM v with
   |some (k,l)=>some (bif Nat.beq k ty.size then K ⟨(d,.ptr σ.nx 0)::σ.sl,(σ.nx,.cells ty.size l)::σ.mem,σ.nx+1⟩else False)
   |none=>some False
  |_,_,_=>some False
 | .store t x y=>match o.dst,ti t,ρ σ.sl x,ρ σ.sl y with
  |none,some ty,some (.ptr n off),some v=>match look n σ.mem,XM v with
   |some (.cells size c),some (k,l)=>some (bif Nat.beq k ty.size&&Nat.ble (off+k) size then(bif Nat.ble 17 k then Zy (c.take off++l++c.drop (off+k)) λl=>K ⟨σ.sl,(n,.cells size l)::σ.mem,σ.nx⟩else K ⟨σ.sl,(n,.cells size (c.take off++l++c.drop (off+k)))::σ.mem,σ.nx⟩)else False)
   |_,_=>some False
  |_,_,_,_=>some False
 | .call c=>match c.callee,c.args.toList,o.dst with
  | .builtin .append,[x,y],some d=>match X3 ti c.argTypes,ρ σ.sl x,ρ σ.sl y with
   |some ety,some u,some v=>match QCc ety.size v with
    |some es'=>bif Nat.ble ety.bytes 65536&&Nat.blt 0 ety.size&&Nat.beq ety.zero.length ety.size then(match u with
     | .ts sz es n=>some (bif (Nat.beq sz ety.size||(Nat.beq sz 0&&es.isEmpty))&&(match look n σ.mem with|some (.tail t _)=>Nat.beq t (Q2 ti c.argTypes)|_=>false)then es.length+es'.length<=1073741824/\K ⟨(d,.ts ety.size (es++es') n)::XJ n σ.sl,(n,.tail (Q2 ti c.argTypes) (QKy n σ.mem))::ZJ n σ.mem,σ.nx⟩else False)
     | .tg sz es=>some (bif Nat.beq sz ety.size||es.isEmpty then es.length+es'.length<=1073741824/\K ⟨(d,.ts ety.size (es++es') σ.nx)::σ.sl,(σ.nx,.tail (Q2 ti c.argTypes) false)::σ.mem,σ.nx+1⟩else False)
     | .nl sz=>some (es'.length<=1073741824/\K ⟨(d,.ts ety.size es' σ.nx)::σ.sl,(σ.nx,.tail (Q2 ti c.argTypes) true)::σ.mem,σ.nx+1⟩)
     | .vx sz n i len=>some (match look n σ.mem with
      |some (.vec t sz' es _)=>bif Nat.beq i 0&&Nat.beq sz ety.size&&Nat.beq sz' ety.size&&Nat.beq t (Q2 ti c.argTypes)then(len<=es.length/\len+es'.length<=1073741824)/\JC (es.take len++es') λl=>XO (len+es'.length) λz=>K ⟨(d,.vx ety.size n 0 z)::XJ n σ.sl,(n,.vec (Q2 ti c.argTypes) ety.size l false)::ZJ n σ.mem,σ.nx⟩else False
      |_=>False)
     |_=>some False)else some False
    |none=>match u,v with
     | .tg sz es,.vx sz' n i len=>some (match look n σ.mem with
      |some (.vec t sz'' es2 _)=>bif (Nat.ble ety.bytes 65536&&Nat.blt 0 ety.size&&Nat.beq ety.zero.length ety.size)&&(Nat.beq sz' ety.size&&Nat.beq sz'' ety.size&&(Nat.beq sz ety.size||es.isEmpty))then(i+len<=es2.length/\es.length+len<=1073741824)/\JC (es++(es2.drop i).take len) λl=>K ⟨(d,.ts ety.size l σ.nx)::σ.sl,(σ.nx,.tail (Q2 ti c.argTypes) false)::σ.mem,σ.nx+1⟩else False
      |_=>False)
     |_,_=>some False
   |_,_,_=>some False
  | .builtin .unsafeString,[x,y],some d=>match ρ σ.sl x,ρ σ.sl y with
   |some (.sd es n),some (.d (.it .i64 m))=>some (match look n σ.mem,(c.argTypes[0]?).bind ti with
    |some (.tail t b),some ⟨.ptr e,_,_,_,_,_⟩=>match ti e with
     |some ⟨.int .u8,1,_,_,_,_⟩=>bif Nat.beq t e then∃l,(es=QD l/\m=l.length/\l.length<=9223372036854775807)/\K ⟨(d,.d (.st l))::XJ n σ.sl,(n,.tail t b)::ZJ n σ.mem,σ.nx⟩else False
     |_=>False
    |_,_=>False)
   |some (.d (.ot (.pointer none))),some (.d (.it .i64 0))=>some (match c.argTypes[0]? with|some _=>K ⟨(d,.d (.st []))::σ.sl,σ.mem,σ.nx⟩|none=>False)
   |_,_=>some False
  |_,_,_=>none
 |_=>none
structure QSH(sz:Nat)(K:List (List D)->Prop):Prop where
 run:∀ext:List (List D),(∀x∈ext,x.length=sz)->K ext
def QJj(ti:Nat->Option Ty)(ats:Array TypeId):Option (Nat×Ty):=
 match ats[0]?,ats[1]? with
 |some t,some t1=>match ti t,ti t1 with
  |some ⟨.slice e,_,_,_,_,_⟩,some ⟨.int _,_,_,_,_,_⟩=>match ti e with
   |some ety=>some (e,ety)
   |none=>none
  |_,_=>none
 |_,_=>none
def QFC(ety:Ty):Bool:=Nat.ble ety.bytes 65536&&Nat.blt 0 ety.size&&Nat.beq ety.zero.length ety.size
def QOG(P:Program)(ti:Nat->Option Ty)(o:Oper)(σ:S)(K:S->Prop):Option Prop:=
 match o.op with
 | .call c=>match c.callee,c.args.toList,o.dst with
  | .builtin .cap,[x],some d=>match ρ σ.sl x,(c.argTypes[0]?).bind ti with
   |some (.vx sz n i len),some ⟨.slice _,_,_,_,_,_⟩=>some (match look n σ.mem with
    |some (.vec t sz' es fl)=>bif Nat.beq i 0&&Nat.beq sz' sz&&Nat.blt 0 sz then(bif fl then K ⟨(d,.d (.it .i64 (es.length:Nat)))::σ.sl,(n,.vec t sz es true)::σ.mem,σ.nx⟩else QSH sz λext=>K ⟨(d,.d (.it .i64 (es.length+ext.length:Nat)))::σ.sl,(n,.vec t sz (es++ext) true)::σ.mem,σ.nx⟩)else False
    |_=>False)
   |_,_=>none
  | .builtin .copy,[x,y],some d=>match ρ σ.sl x,X3 ti c.argTypes,ρ σ.sl y with
   |some (.vx sz n i len),some ety,some v=>some (match look n σ.mem with
    |some (.vec t sz' es fl)=>bif Nat.beq sz ety.size&&Nat.beq sz' ety.size&&Nat.blt 0 ety.size then(match QCc ety.size v with
     |some es'=>(i+len<=es.length/\es'.length<=len)/\JC (es.take i++es'++es.drop (i+es'.length)) λl=>K ⟨(d,.d (.it .i64 (es'.length:Nat)))::σ.sl,(n,.vec t ety.size l fl)::σ.mem,σ.nx⟩
     |none=>match v with
      | .vx sz2 n2 i2 len2=>match look n2 σ.mem with
       |some (.vec _ sz3 es2 _)=>bif Nat.beq sz2 ety.size&&Nat.beq sz3 ety.size then(i+len<=es.length/\i2+len2<=es2.length)/\XO (Nat.min len2 len) λq=>JC (es.take i++(es2.drop i2).take q++es.drop (i+q)) λl=>K ⟨(d,.d (.it .i64 (q:Nat)))::σ.sl,(n,.vec t ety.size l fl)::σ.mem,σ.nx⟩else False
       |_=>False
      |_=>False)else False
    |_=>False)
   |some (.ms sz n off len cap),some ety,some v=>some (match look n σ.mem,QCc ety.size v with
    |some (.cells size c),some es'=>bif Nat.beq sz ety.size&&Nat.blt 0 ety.size then(off+len*ety.size<=size/\es'.length<=len)/\Zy (c.take off++es'.flatten.map AV.d++c.drop (off+es'.length*ety.size)) λl=>K ⟨(d,.d (.it .i64 (es'.length:Nat)))::σ.sl,(n,.cells size l)::σ.mem,σ.nx⟩else False
    |_,_=>False)
   |_,_,_=>none
  | .builtin .append,[x,y],some d=>match ρ σ.sl x,ρ σ.sl y with
   |some (.vx sz n i len),some (.d (.it k z))=>some (match QJj ti c.argTypes,look n σ.mem with
    |some (e,ety),some (.vec t sz' es fl)=>bif fl&&Nat.beq i 0&&Nat.beq sz ety.size&&Nat.beq sz' ety.size&&QFC ety then(0<=z/\len<=es.length/\es.length<len+z.toNat/\len+z.toNat<=1073741824)/\JC (es.take len++List.replicate z.toNat ety.zero) λl=>XO (len+z.toNat) λq=>K ⟨(d,.vx ety.size σ.nx 0 q)::σ.sl,(σ.nx,.vec e ety.size l false)::σ.mem,σ.nx+1⟩else False
    |_,_=>False)
   |some (.vx sz n i len),some (.vx sz' n' i' len')=>some (match X3 ti c.argTypes,look n σ.mem,look n' σ.mem with
    |some ety,some (.vec t sz2 es _),some (.vec _ sz3 es2 _)=>bif QFC ety&&(Nat.beq i 0&&Nat.beq sz ety.size&&Nat.beq sz2 ety.size&&Nat.beq t (Q2 ti c.argTypes))&&(Nat.beq sz' ety.size&&Nat.beq sz3 ety.size)then(len<=es.length/\i'+len'<=es2.length/\len+len'<=1073741824)/\JC (es.take len++(es2.drop i').take len') λl=>XO (len+len') λz=>K ⟨(d,.vx ety.size n 0 z)::XJ n σ.sl,(n,.vec (Q2 ti c.argTypes) ety.size l false)::ZJ n σ.mem,σ.nx⟩else False
    |_,_,_=>False)
   |some (.tg sz es),some (.ms sz' n off len cap)=>some (match X3 ti c.argTypes,look n σ.mem with
    |some ety,some (.cells size c')=>bif QFC ety&&(Nat.beq sz' ety.size&&(Nat.beq sz ety.size||es.isEmpty))then∃es2:List (List D),(off+len*ety.size<=size/\es2.length=len/\(∀x∈es2,x.length=ety.size)/\(c'.drop off).take (len*ety.size)=es2.flatten.map AV.d/\es.length+len<=1073741824)/\JD (K ⟨(d,.ts ety.size (es++es2) σ.nx)::σ.sl,(σ.nx,.tail (Q2 ti c.argTypes) false)::σ.mem,σ.nx+1⟩) (es=[]/\XO len λz=>K ⟨(d,.vx ety.size σ.nx 0 z)::σ.sl,(σ.nx,.vec (Q2 ti c.argTypes) ety.size es2 false)::σ.mem,σ.nx+1⟩)else False
    |_,_=>False)
   |some (.tg sz es),some v=>match QKz P ti o σ K,X3 ti c.argTypes with
    |some p,some ety=>match QCc ety.size v with
     |some es'=>bif QFC ety then some (JD p (es=[]/\es'.length<=1073741824/\JC es' λl=>XO es'.length λz=>K ⟨(d,.vx ety.size σ.nx 0 z)::σ.sl,(σ.nx,.vec (Q2 ti c.argTypes) ety.size l false)::σ.mem,σ.nx+1⟩))else none
     |none=>none
    |_,_=>none
   |_,_=>none
  | .builtin .clear,[x],none=>match ρ σ.sl x,(c.argTypes[0]?).bind ti with
   |some (.vx sz n i len),some ⟨.slice e,_,_,_,_,_⟩=>some (match look n σ.mem,ti e with
    |some (.vec tt sz' es fl),some ety=>bif QFC ety&&(Nat.beq sz ety.size&&Nat.beq sz' ety.size)then i+len<=es.length/\JC (es.take i++List.replicate len ety.zero++es.drop (i+len)) λl=>K ⟨σ.sl,(n,.vec tt ety.size l fl)::σ.mem,σ.nx⟩else False
    |_,_=>False)
   |_,_=>none
  |_,_,_=>none
 | .binOp .eql t x (.const (.slice none 0 0)) _=>match ti t,o.dst,ρ σ.sl x with
  |some ⟨.slice _,_,_,_,_,_⟩,some d,some (.ms sz n off len cap)=>some (0<cap/\K (σ.put (some d) (.d (.bl false))))
  |_,_,_=>none
 | .store t x y=>match o.dst,ti t,ρ σ.sl x,ρ σ.sl y with
  |none,some ty,some (.vq sz n k off),some v=>some (match look n σ.mem,XM v with
   |some (.vec tt sz' es fl),some (q,l')=>match allD l' with
    |some l=>bif Nat.beq sz' sz&&Nat.beq off 0&&(Nat.beq ty.size sz&&Nat.beq q sz&&Nat.blt 0 sz)then k<es.length/\JC (es.take k++[l]++es.drop (k+1)) λes2=>K ⟨σ.sl,(n,.vec tt sz es2 fl)::σ.mem,σ.nx⟩else False
    |none=>False
   |_,_=>False)
  |_,_,_,_=>none
 | .buildSlice t n parts=>match o.dst,ti t,Yy (ρ σ.sl) parts.toList with
  |some d,some ⟨.slice e,_,_,_,_,_⟩,some ps=>match ti e with
   |some ety=>bif QFC ety&&Nat.blt 0 n&&(Nat.ble (n*ety.size) 16777216&&ps.all (λp=>Nat.blt p.1 n))then(match YM (λi=>bif Nat.blt i n then some (i*ety.size,ety.size)else none) (Zx n ety.zero) ps with
    |some l=>some (JD (evV P ti σ.mem (ρ σ.sl) o (λv=>K (σ.put o.dst v))) (JC (XP ety.size n l) λes=>K ⟨(d,.vx ety.size σ.nx 0 n)::σ.sl,(σ.nx,.vec e ety.size es false)::σ.mem,σ.nx+1⟩))
    |none=>none)else none
   |none=>none
  |_,_,_=>none
 |_=>none
def Zz(P:Program)(N:Nat)(o:Oper)(σ:S)(K:S->Prop):Prop:=
 ∀(κ:Ctx) (g:Gh) (a:Act) (w:World),St κ N g σ a w->∀(next:Act->World->Prop) (Q:Exit->Act->World->Prop),(∀g' σ' a' w',K σ'->St κ N g' σ' a' w'->next a' w')->o.wpIn (wd κ.rd) 0 P a w next Q
structure QQu(N:Nat)(o:Oper)(σ:S)(f:Nat)(l:List AV):Prop where
 ex:∃x args ats first cap l',o.op= .call ⟨.value x,args,ats⟩/\ρ σ.sl x=some (.fn (.func f) first cap)/\Xy (ρ σ.sl) args.toList=some l'/\l=first++l'++cap
 dst:∀d,o.dst=some d->d<N
structure QSI(N:Nat)(o:Oper)(σ:S)(n:Nat)(l:List AV):Prop where
 ex:∃x args ats,o.op= .call ⟨.value x,args,ats⟩/\ρ σ.sl x=some (.yld n)/\Xy (ρ σ.sl) args.toList=some l
 dst:∀d,o.dst=some d->d<N
structure CallI(P:Program)(N:Nat)(o:Oper)(σ:S)(f:Nat)(l:List AV)(K:S->Prop):Prop where
 run:QQu N o σ f l->Zz P N o σ K
structure QCd(P:Program)(N:Nat)(o:Oper)(σ:S)(n:Nat)(l:List AV)(K:S->Prop):Prop where
 run:QSI N o σ n l->Zz P N o σ K
structure CallE(A B:Prop):Prop where
 run:A\/B
variable {P:Program}
variable {f N d nx m n t k sz t' size off cap sLen sCap M i q j:Nat}
variable {l c:List AV}
variable {B p:Prop}
theorem CallE.con{K:AV->Prop}(h:∃r,FnC P f l r/\K r):CallE (ZK P f l K) B:=⟨.inl ⟨h⟩⟩
theorem CallE.inl{A:Prop}(h:B):CallE A B:=⟨.inr h⟩
def QJk(P:Program)(N:Nat)(o:Oper)(σ:S)(K:S->Prop):Option Prop:=
 match o.op with
 | .call ⟨.value x,args,ats⟩=>match ρ σ.sl x,Xy (ρ σ.sl) args.toList with
  |some (.fn (.func f) first cap),some l=>match x,QC1 (ρ σ.sl) args.toList with
   | .func _,some l'=>some (CallE (ZK P f l' λv=>K (σ.put o.dst v)) (CallI P N o σ f (first++l++cap) K))
   |_,_=>some (CallI P N o σ f (first++l++cap) K)
  |some (.yld n),some l=>some (QCd P N o σ n l K)
  |_,_=>none
 |_=>none
structure OpX(P:Program)(N:Nat)(o:Oper)(σ:S)(K:S->Prop):Prop where
 run:(∀d,o.dst=some d->d<N)->Zz P N o σ K
def evX(P:Program)(N:Nat)(o:Oper)(σ:S)(K:S->Prop):Option Prop:=
 match o.op with
 | .convert _ _ x=>match ρ σ.sl x with
  |some (.vx ..)=>some (OpX P N o σ K)
  |_=>none
 | .makeMap .. | .mapUpdate .. | .insert .. | .mapEntry .. | .entryStore .. | .range .. | .next .. | .entry .. =>some (OpX P N o σ K)
 | .lookup _ x _ _=>match ρ σ.sl x with
  |some (.d _)=>none
  |_=>some (OpX P N o σ K)
 | .store _ x _=>match ρ σ.sl x with
  |some (.vq _ _ _ (_+1))=>some (OpX P N o σ K)
  |_=>none
 | .call ⟨.builtin .clear,args,_⟩=>match args.toList with
  |[x]=>(match ρ σ.sl x with
   |some (.ms ..)=>some (OpX P N o σ K)
   |_=>none)
  |_=>none
 | .call ⟨.builtin .delete,_,_⟩=>some (OpX P N o σ K)
 |_=>none
def QJl(P:Program)(ti:Nat->Option Ty)(N:Nat)(o:Oper)(σ:S)(K:S->Prop):Prop:=
 bif (match o.dst with|some d=>Nat.blt d N|none=>true)then
  match evX P N o σ K with
  |some p=>p
  |none=>match QJk P N o σ K with
  |some p=>p
  |none=>match QOG P ti o σ K with
  |some p=>p
  |none=>match QKz P ti o σ K with
  |some p=>p
  |none=>evV P ti σ.mem (ρ σ.sl) o (λv=>K (σ.put o.dst v))
 else False
theorem Zm(a:Act)(d:Nat)(v:Value):(a.put (some d) v).tmps=a.tmps.setIfInBounds d v:=rfl
theorem put_defers(a:Act)(d:Option Nat)(v:Value):(a.put d v).defers=a.defers:=by cases d<;>rfl
theorem YN(xs:Array Value)(d k:Nat)(v:Value)(h:d<xs.size):(xs.setIfInBounds d v).getD k undef=if k=d then v else xs.getD k undef:=by
 by_cases hk:k=d
 ·subst hk;simp[Array.getD,h]
 ·rw [if_neg hk];simp only[Array.getD,Wj];by_cases h2:k<xs.size
  ·rw [dif_pos h2,dif_pos h2];have h3:k<(xs.setIfInBounds d v).size:=by simpa using h2
   show(xs.setIfInBounds d v)[k]'h3=xs[k];rw[qt,if_neg (vb hk)]
  ·rw [dif_neg h2,dif_neg h2]
variable {κ:Ctx}
variable {g g':Gh}
variable {σ:S}
variable {a:Act}
variable {w w':World}
variable {v:AV}
variable {u z:Value}
variable {mem:List (Nat×Ob)}
theorem St.put(h:St κ N g σ a w)(hd:d<N)(he:Ext σ.nx g g')(hi:Inv κ g' mem w')(hv:AVR g' v u)
  (hok:(S.mk ((d,v)::σ.sl) mem nx).ok=true):St κ N g' ⟨(d,v)::σ.sl,mem,nx⟩ (a.put (some d) u) w':=by
 refine⟨by simp[Zm,h.size],by rw[put_defers];exact h.defers,λk x hk=>?_,hi,hok⟩;rw[Zm,YN _ _ _ _ (by rw[h.size];exact hd)];rw[QC]at hk;by_cases hkd:k=d
 ·rw [if_pos hkd]at hk⊢;obtain rfl:=za hk;exact hv
 ·rw [if_neg hkd]at hk⊢;exact(h.sl k x hk).ext he (S.ok_sl h.ok hk)
theorem S.ok_iff:σ.ok=true↔(∀p∈σ.sl,p.2.lt σ.nx=true)/\∀p∈σ.mem,p.1<σ.nx/\p.2.lt σ.nx=true:=by
 simp only[S.ok,zf,ze,yc]
variable {o o':Ob}
theorem Ob.lt_mono{m':Nat}(h:o.lt m=true)(hm:m<=m'):o.lt m'=true:=by
 cases o with
 |cells size c=>
  simp only[Ob.lt,ze]at h⊢;exact λx hx=>AV.lt1_mono (h x hx) hm
 |tail=>rfl
 |vec=>rfl
 |tag=>
  simp only[Ob.lt,yc]at h⊢;omega
 |frame sz l=>
  simp only[Ob.lt,ze]at h⊢;exact λx hx=>AV.lt_mono (h x hx) hm
 |loop=>
  simp only[Ob.lt,yc]at h⊢;omega
 |mp=>rfl
theorem S.ok_cons(h:σ.ok=true)(hnx:σ.nx<=nx)(hv:v.lt nx=true)(hm:∀p∈mem,p.1<nx/\p.2.lt nx=true):(S.mk ((d,v)::σ.sl) mem nx).ok=true:=by
 rw[S.ok_iff]at h⊢;refine⟨λp hp=>?_,hm⟩;rcases zi.1 hp with rfl|hp
 ·exact hv
 ·exact AV.lt_mono (h.1 p hp) hnx
theorem S.ok_memAll(h:σ.ok=true):∀p∈σ.mem,p.1<σ.nx/\p.2.lt σ.nx=true:=(S.ok_iff.1 h).2
theorem QEb{ti:Nat->Option Ty}{o:Oper}{K:S->Prop}(hti:QU P ti)(hd:∀d,o.dst=some d->d<N)(h:evV P ti σ.mem (ρ σ.sl) o (λv=>K (σ.put o.dst v))):Zz P N o σ K:=by
 intro κ g a w hst next Q hn
 obtain⟨v,hK,hlt,hdoes⟩:=QFn (nx:=σ.nx) hti (λx v hx=>ρ_lt hst.ok hx) (λn ob hl=>S.ok_mem hst.ok hl) h;refine hdoes κ g a w hst.inv (λx _ v hx=>ρ_ok hst.sl hx) next Q λg' u w' he hi' hv=>?_
 refine hn g' _ _ _ hK ?_;cases hdst:o.dst with
 |none=>
  show St κ N g' σ a w';exact⟨hst.size,hst.defers,λk x hk=>(hst.sl k x hk).ext he (S.ok_sl hst.ok hk),hi',hst.ok⟩
 |some d=>exact hst.put (hd d hdst) he hi' hv (S.ok_cons hst.ok (zt _) hlt (S.ok_memAll hst.ok))
variable {arr arr' news olds cs:Array Value}
theorem Inv.newCells{T:TypeId}(hi:Inv κ g σ.mem w)(hok:σ.ok=true)(hw:w'.heap=w.heap.push (.cells arr T (0,0)))(h1:w'.os=w.os)(h2:w'.tape=w.tape)(h3:w'.output=w.output)
  (hc:c.length=arr.size) (hsc:∀j (h:j<c.length),c[j].sc=true) (hl:∀x∈c,x.lt1 σ.nx=true) (hr:∀j (h:j<c.length),AVR g c[j] (arr.getD j undef)):
  ∃g',Ext σ.nx g g'/\g'.blk σ.nx=w.heap.size/\Inv κ g' ((σ.nx,.cells arr.size c)::σ.mem) w':=by
 have hmem:∀n ob,look n σ.mem=some ob->n<σ.nx/\ob.lt σ.nx=true:=λn ob h=>S.ok_mem hok h;let g':Gh:= {g with blk:=λn=>if n=σ.nx then w.heap.size else g.blk n}
 have he:Ext σ.nx g g':=⟨λ_ _ _ h=>h,λn hn=>if_neg (by omega),λ_ _=>rfl,λ_ _=>rfl,λ_ _=>rfl⟩;have hold:∀b o v,g.F b o=some v->b<w.heap.size:=λb o v h=>u0 w ⟨b,o,none⟩ (hi.frz b o v h);have hcell:∀b o v,g.F b o=some v->w'.cell? ⟨b,o,none⟩=some v:=λb o v h=>by
  have hc:=hi.frz _ _ _ h;have hlt:=hold _ _ _ h;simp only[World.cell?]at hc⊢;rw[hw,xw,if_neg (by omega)];exact hc
 have hi':Inv κ g' σ.mem w':=hi.grow hmem he (by rw[hw];simp) (λb hb=>by rw[hw,xw,if_neg (by omega)]) (λb o v h=> .inl h) hcell h1 h2 h3;refine⟨g',he,if_pos rfl,?_⟩;have hlook:∀n,look n ((σ.nx,Ob.cells arr.size c)::σ.mem)=if n=σ.nx then some (.cells arr.size c)else look n σ.mem:=λn=>QC _ _ _ _
 have on:∀n,n≠σ.nx->On g' ((σ.nx,.cells arr.size c)::σ.mem) n->On g' σ.mem n:=λn hn h=>by
  unfold On at h⊢;rw[hlook,if_neg hn]at h;exact h
 have blt:∀n,On g' σ.mem n->g'.blk n<w.heap.size:=λn h=>by
  unfold On at h;cases hl:look n σ.mem with
  |none=>rw[hl]at h;exact h.elim
  |some ob=>
   have hob:=hi.obs n ob hl;rw[he.blk n (hmem n ob hl).1];have lt_of:∀ {x:Obj},w.heap[g.blk n]? =some x->g.blk n<w.heap.size:=λh=>by
    rcases yj (g.blk n) w.heap.size with h'|h'
    ·exact h'
    ·rw [xh h']at h;cases h
   cases ob with
   |cells=>obtain⟨a',T',e1,_⟩:=hob;exact lt_of e1
   |tail=>
    rw[hl]at h;obtain⟨a',T',e1,_⟩:=hob.1 h;exact lt_of e1
   |vec=>
    rw[hl]at h;obtain⟨a',e1,_⟩:=hob.2.2 h;exact lt_of e1
   |tag=>rw[hl]at h;exact h.elim
   |frame=>rw[hl]at h;exact h.elim
   |loop=>obtain⟨_,fn,D,e⟩:=hob;exact lt_of e
   |mp=>
    rw[hl]at h;obtain⟨a',e1,_⟩:=hob.2.2 h;exact lt_of e1
 refine⟨hi'.frz,λn ob hn=>?_,λn m hnm h h'=>?_,hi'.size,hi'.pres,λn h=>?_,hi'.f0,hi'.fnew,hi'.os,hi'.tape,hi'.output,hi'.dfr⟩
 ·rw [hlook]at hn;by_cases hnn:n=σ.nx
  ·subst hnn;rw[if_pos rfl]at hn;obtain rfl:=za hn;refine⟨arr,T,?_,rfl,hc,hsc,λj hj=>(hr j hj).ext1 he (hl _ (zm hj)),λo=>?_⟩
   ·show w'.heap[if σ.nx=σ.nx then w.heap.size else g.blk σ.nx]? =_;rw[if_pos rfl,hw];simp
   ·show g.F (if σ.nx=σ.nx then w.heap.size else g.blk σ.nx) o=none;rw[if_pos rfl];cases hq:g.F w.heap.size o with
    |none=>rfl
    |some v=>have:=hold _ _ _ hq;omega
  ·rw [if_neg hnn]at hn;exact hi'.obs n ob hn
 ·have hb:g'.blk σ.nx=w.heap.size:=if_pos rfl;by_cases hn:n=σ.nx
  ·subst hn;have:=blt m (on m (vb hnm) h');omega
  ·by_cases hm:m=σ.nx
   ·subst hm;have:=blt n (on n hn h);omega
   ·exact hi'.inj n m hnm (on n hn h) (on m hm h')
 ·by_cases hn:n=σ.nx
  ·subst hn;have hb:g'.blk σ.nx=w.heap.size:=if_pos rfl;rw[hb];exact .inl hi.size
  ·exact hi'.own n (on n hn h)
variable {fz:Nat×Nat}
variable {x y:Operand}
variable {ty ety:Ty}
variable {es es' es2:List (List D)}
variable {base:Option Addr}
section
variable {P:Program} {ti:Nat->Option Ty} {N:Nat} {o:Oper} {σ:S} {K:S->Prop}
theorem QC4(m off:Nat):(AV.ptr m off).lt (m+1)=true:=by simp[AV.lt,AV.lt2,AV.lt1,AV.lt0]
theorem Inv.addTag(hi:Inv κ g mem w)(h:w.heap[g.blk m]? =some (.cells arr t fz)):Inv κ g ((n,.tag m t)::mem) w:=by
 have on:∀k,On g ((n,.tag m t)::mem) k->On g mem k:=λk h=>by
  unfold On at h⊢;rw[QC]at h;by_cases hk:k=n
  ·rw [if_pos hk]at h;exact h.elim
  ·rw [if_neg hk]at h;exact h
 refine⟨hi.frz,λk ob hk=>?_,λk k' hkk h h'=>hi.inj k k' hkk (on k h) (on k' h'),hi.size,hi.pres,λk h=>hi.own k (on k h),hi.f0,hi.fnew,hi.os,hi.tape,hi.output,hi.dfr⟩;rw[QC]at hk;by_cases hkn:k=n
 ·rw [if_pos hkn]at hk;obtain rfl:=za hk;exact⟨arr,fz,h⟩
 ·rw [if_neg hkn]at hk;exact hi.obs k ob hk
theorem QIL{e:TypeId}(hd:o.dst=some d)(hdN:d<N)
  (hrun:∀(κ:Ctx) (g:Gh) (a:Act) (w:World),St κ N g σ a w->∃arr:Array Value,(execOp a.eval o).run P w= .ok (.value (.pointer (some ⟨w.heap.size,0,none⟩))) (w.alloc (.cells arr e))/\arr.size=k/\l.length=k/\(∀j (h:j<l.length),l[j].sc=true)/\(∀x∈l,x.lt1 σ.nx=true)/\∀j (h:j<l.length),AVR g l[j] (arr.getD j undef))
  (hK:K ⟨(d,.ptr σ.nx 0)::σ.sl,(σ.nx,.cells k l)::σ.mem,σ.nx+1⟩):Zz P N o σ K:=by
 intro κ g a w hst next Q hn
 obtain⟨arr,hr,e1,e2,e3,e4,e5⟩:=hrun κ g a w hst;obtain⟨g',he,hb,hi'⟩:=hst.inv.newCells (w':=w.alloc (.cells arr e)) hst.ok rfl rfl rfl rfl (e2.trans e1.symm) e3 e4 e5;refine Qc hr (hn g' _ _ _ hK ?_);rw[hd];rw[e1]at hi';refine hst.put hdN he hi' (by rw[<-hb];exact .ptr _ _) (S.ok_cons hst.ok (y3 _) (QC4 _ _) λp hp=>?_);rcases zi.1 hp with rfl|hp
 ·refine ⟨y6 _,?_⟩;simp only[Ob.lt,ze];exact λx hx=>AV.lt1_mono (e4 x hx) (y3 _)
 ·have:=S.ok_memAll hst.ok p hp;exact⟨by omega,Ob.lt_mono this.2 (y3 _)⟩
theorem QL4{e:TypeId}(hd:o.dst=some d)(hdN:d<N)
  (hrun:∀(κ:Ctx) (g:Gh) (a:Act) (w:World),St κ N g σ a w->∃arr:Array Value,(execOp a.eval o).run P w= .ok (.value (.pointer (some ⟨w.heap.size,0,none⟩))) (w.alloc (.cells arr e))/\arr.size=k/\l.length=k/\(∀j (h:j<l.length),l[j].sc=true)/\(∀x∈l,x.lt1 σ.nx=true)/\∀j (h:j<l.length),AVR g l[j] (arr.getD j undef))
  (hK:K ⟨(d,.ptr σ.nx 0)::σ.sl,(σ.nx+1,.tag σ.nx e)::(σ.nx,.cells k l)::σ.mem,σ.nx+2⟩):Zz P N o σ K:=by
 intro κ g a w hst next Q hn
 obtain⟨arr,hr,e1,e2,e3,e4,e5⟩:=hrun κ g a w hst;obtain⟨g',he,hb,hi'⟩:=hst.inv.newCells (w':=w.alloc (.cells arr e)) hst.ok rfl rfl rfl rfl (e2.trans e1.symm) e3 e4 e5;refine Qc hr (hn g' _ _ _ hK ?_);rw[hd];rw[e1]at hi';have hok':(S.mk σ.sl ((σ.nx,.cells k l)::σ.mem) (σ.nx+1)).ok=true:=by
  refine S.ok_iff.2 ⟨λp hp=>AV.lt_mono ((S.ok_iff.1 hst.ok).1 p hp) (y3 _),λp hp=>?_⟩;rcases zi.1 hp with rfl|hp
  ·refine ⟨y6 _,?_⟩;simp only[Ob.lt,ze];exact λx hx=>AV.lt1_mono (e4 x hx) (y3 _)
  ·have:=S.ok_memAll hst.ok p hp;exact⟨by show p.1<σ.nx+1;omega,Ob.lt_mono this.2 (y3 _)⟩
 have hi2:=hi'.addTag (n:=σ.nx+1) (m:=σ.nx) (t:=e) (arr:=arr) (fz:=(0,0)) (by rw[hb];exact Vc _ _);refine hst.put hdN he hi2 (by rw[<-hb];exact .ptr _ _) (S.ok_cons hst.ok (by omega) (AV.lt_mono (QC4 _ _) (y3 _)) λp hp=>?_);rcases zi.1 hp with rfl|hp
 ·refine ⟨by show σ.nx+1<σ.nx+2;omega,?_⟩;simp only[Ob.lt,yc];omega
 ·have:=S.ok_memAll hok' p hp;exact⟨wm this.1,Ob.lt_mono this.2 (y3 _)⟩
theorem QOH{e:Nat}{ty:Ty}(hop:o.op= .box e x)(hd:o.dst=some d)(hdN:d<N)(hx:ρ σ.sl x=some v)(hc:XM v=some (k,l))(hK:K ⟨(d,.ptr σ.nx 0)::σ.sl,(σ.nx,.cells k l)::σ.mem,σ.nx+1⟩):Zz P N o σ K:=by
 refine QIL (e:=e) hd hdN (λκ g a w hst=>?_) hK;obtain⟨q1,q2,q3,q4,q5⟩:=Ji hc (ρ_ok hst.sl hx) (ρ_lt hst.ok hx);refine⟨(a.eval x).cells,?_,q1,q2,q3,q4,q5⟩;simp only[execOp,hop,Instr.box,newVar,newRow,zp,run_newObj,zq,zg];rfl
theorem QJm{e:Nat}(hti:QU P ti)(hop:o.op= .alloc e)(hd:o.dst=some d)(hdN:d<N)(ht:ti e=some ty)(hz:ty.zero.length=ty.size)(h0:0<ty.size)(hK:K ⟨(d,.ptr σ.nx 0)::σ.sl,(σ.nx,.cells ty.size (ty.zero.map toA))::σ.mem,σ.nx+1⟩):Zz P N o σ K:=by
 obtain⟨u,i,ht⟩:=QE (hti _ _ ht);refine QIL (e:=e) hd hdN (λκ g a w hst=>?_) hK;obtain⟨zv,hzv,hLR,hLA⟩:=Zl (g:=g) (z:=i.zero) (h:=slH P 6 e) (by rw[ht.zero];omega);rw[ht.zero]at hLR hLA;refine⟨zv.cells,?_,by rw[<-hLR.1,hz],by simpa using hz,λj hj=>by simp only[z1];exact QEP _,λx hx=>?_,hLA.2⟩
 ·simp only[execOp,hop,Instr.alloc,newVar,newRow,zeroValue,zp,ZE ht.info,hzv,run_newObj,zq,zg];rfl
 ·obtain ⟨y,_,rfl⟩:=yf.1 hx;exact QAM _ _
theorem QIM{e:Nat}(hti:QU P ti)(hop:o.op= .alloc e)(hd:o.dst=some d)(hdN:d<N)(ht:ti e=some ty)(hz:ty.zero.length=ty.size)(h0:0<ty.size)(hK:K ⟨(d,.ptr σ.nx 0)::σ.sl,(σ.nx+1,.tag σ.nx e)::(σ.nx,.cells ty.size (ty.zero.map toA))::σ.mem,σ.nx+2⟩):Zz P N o σ K:=by
 obtain⟨u,i,ht⟩:=QE (hti _ _ ht);refine QL4 (e:=e) hd hdN (λκ g a w hst=>?_) hK;obtain⟨zv,hzv,hLR,hLA⟩:=Zl (g:=g) (z:=i.zero) (h:=slH P 6 e) (by rw[ht.zero];omega);rw[ht.zero]at hLR hLA;refine⟨zv.cells,?_,by rw[<-hLR.1,hz],by simpa using hz,λj hj=>by simp only[z1];exact QEP _,λx hx=>?_,hLA.2⟩
 ·simp only[execOp,hop,Instr.alloc,newVar,newRow,zeroValue,zp,ZE ht.info,hzv,run_newObj,zq,zg];rfl
 ·obtain ⟨y,_,rfl⟩:=yf.1 hx;exact QAM _ _
theorem QOI{tt:Nat}(hop:o.op= .assign (.const (.slice none 0 0)))(hd:o.dst=some d)(hdN:d<N)(hK:K ⟨(d,.ts sz [] σ.nx)::σ.sl,(σ.nx,.tail tt true)::σ.mem,σ.nx+1⟩):Zz P N o σ K:=by
 intro κ g a w hst next Q hn
 have hmem:∀n ob,look n σ.mem=some ob->n<σ.nx/\ob.lt σ.nx=true:=λn ob h=>S.ok_mem hst.ok h;have hr:(execOp a.eval o).run P w= .ok (.value (.slice none 0 0)) w:=by simp only[execOp,hop,Act.eval,zq]
 let g':Gh:= {g with has:=λn=>if n=σ.nx then false else g.has n,hi:=λn=>if n=σ.nx then 0 else g.hi n}
 have he:Ext σ.nx g g':=⟨λ_ _ _ h=>h,λ_ _=>rfl,λn hn=>if_neg (by omega),λ_ _=>rfl,λn hn=>if_neg (by omega)⟩;have hi':Inv κ g' σ.mem w:=hst.inv.grow hmem he (zt _) (λ_ _=>rfl) (λb o v h=> .inl h) (λb o v h=>hst.inv.frz b o v h) rfl rfl rfl;have hlook:∀n,look n ((σ.nx,Ob.tail tt true)::σ.mem)=if n=σ.nx then some (.tail tt true)else look n σ.mem:=λn=>QC _ _ _ _
 have hno:¬On g' ((σ.nx,.tail tt true)::σ.mem) σ.nx:=by
  unfold On;rw[hlook,if_pos rfl];show¬(if σ.nx=σ.nx then false else g.has σ.nx)=true;rw[if_pos rfl];simp
 have on:∀n,On g' ((σ.nx,.tail tt true)::σ.mem) n->On g' σ.mem n:=λn h=>by
  by_cases hn:n=σ.nx
  ·subst hn;exact(hno h).elim
  ·unfold On at h⊢;rw[hlook,if_neg hn]at h;exact h
 refine Qc hr (hn g' _ _ _ hK ?_);rw[hd];refine hst.put hdN he ⟨hi'.frz,λn ob hn=>?_,λn m hnm h h'=>hi'.inj n m hnm (on n h) (on m h'),hi'.size,hi'.pres,λn h=>hi'.own n (on n h),hi'.f0,hi'.fnew,hi'.os,hi'.tape,hi'.output,hi'.dfr⟩ (.ts0 _ _ _ _ _ rfl (.fs0 _ _ _) (if_pos rfl) (λ_=>⟨rfl,rfl⟩)) ?_
 ·rw [hlook]at hn;by_cases hnn:n=σ.nx
  ·subst hnn;rw[if_pos rfl]at hn;obtain rfl:=za hn;refine⟨λhh=>?_,λ_ _=>if_pos rfl⟩;have:(if σ.nx=σ.nx then false else g.has σ.nx)=true:=hh;rw[if_pos rfl]at this;cases this
  ·rw [if_neg hnn]at hn;exact hi'.obs n ob hn
 ·refine S.ok_cons hst.ok (y3 _) (by simp[AV.lt,AV.lt2,AV.lt1,AV.lt0]) λp hp=>?_;rcases zi.1 hp with rfl|hp
  ·exact ⟨y6 _,rfl⟩
  ·have:=S.ok_memAll hst.ok p hp;exact⟨by omega,Ob.lt_mono this.2 (y3 _)⟩
theorem QA9{tp te:TypeId}(w:World)(a:Option Addr)(l c:Nat)(hp:P.underlying tp=some (.slice te)):(binOp .eql tp (.slice a l c) (.slice none 0 0)).run P w= .ok (.bool a.isNone) w:=by
 have h:∀d:Nat,(Op.equalIn (d+1) tp (.slice a l c) (.slice none 0 0)).run P w= .ok a.isNone w:=λd=>by
  cases a<;>simp[Op.equalIn,run_underlying hp]
 simp only[binOp];simp[Op.equal,Op.maxDepth,h 9999]
theorem QIN{e:Nat}(hti:QU P ti)(hop:o.op= .binOp .eql t x (.const (.slice none 0 0)) t')(hd:o.dst=some d)(hdN:d<N)(ht:ti t=some ty)(hk:ty.kd= .slice e)(hx:ρ σ.sl x=some v)(hs:Z5 v=some (sz,es))
  (hK:Spl es.isEmpty (QJi (K (σ.put (some d) (.d (.bl true)))) (K (σ.put (some d) (.d (.bl false))))) (K (σ.put (some d) (.d (.bl false))))):Zz P N o σ K:=by
 intro κ g a w hst next Q hn
 obtain⟨u,i,ht⟩:=QE (hti _ _ ht);obtain rfl:=Q3 ht hk;have hdr:=XV hs (ρ_ok hst.sl hx);have hq:∃ad len cap,a.eval x= .slice ad len cap/\(ad.isNone=true->es=[]):=by
  generalize a.eval x=q at hdr;cases hdr with
  |fs0=>exact⟨_,_,_,rfl,λ_=>rfl⟩
  |fs=>exact⟨_,_,_,rfl,λh=>by cases h⟩
 obtain⟨ad,len,cap,hv,hnil⟩:=hq;have hr:(execOp a.eval o).run P w= .ok (.value (.bool ad.isNone)) w:=by
  have h2:a.eval (.const (.slice none 0 0))= .slice none 0 0:=rfl;have hg:(eqGuard .eql t x (.const (.slice none 0 0)) (.slice ad len cap) (.slice none 0 0)).run P w= .ok () w:=by rfl
  simp only[execOp,hop,hv,h2,zp,hg,zg,QA9 w ad len cap ht.und,zq]
 refine Qc hr (hn g (σ.put (some d) (.d (.bl ad.isNone))) _ _ ?_ ?_)
 ·cases hn':ad.isNone with
  |true=>
   have:=hnil hn';subst this;exact(hK.t rfl).l
  |false=>
   cases he:es.isEmpty with
   |true=>exact(hK.t he).r
   |false=>exact hK.f he
 ·rw [hd];exact hst.put hdN (.refl _ _) hst.inv (.d _ _ (.bl _)) (S.ok_cons hst.ok (zt _) rfl (S.ok_memAll hst.ok))
theorem Inv.write{c':List AV}{T:TypeId}(hi:Inv κ g mem w)(hn:look n mem=some (.cells size c))(hw:w.heap[g.blk n]? =some (.cells arr T (0,0)))(h1:arr'.size=size)(h2:c'.length=size)
  (h3:∀j (h:j<c'.length),c'[j].sc=true) (h4:∀j (h:j<c'.length),AVR g c'[j] (arr'.getD j undef)):Inv κ g ((n,.cells size c')::mem) (w.setRow (g.blk n) arr'):=by
 have hlook:∀m,look m ((n,Ob.cells size c')::mem)=if m=n then some (.cells size c')else look m mem:=λm=>QC _ _ _ _
 have hon:On g mem n:=by unfold On;rw[hn];trivial
 have on:∀m,On g ((n,.cells size c')::mem) m->On g mem m:=λm h=>by
  by_cases hm:m=n
  ·subst hm;exact hon
  ·unfold On at h⊢;rw[hlook,if_neg hm]at h;exact h
 obtain⟨_,_,_,_,_,_,_,hF⟩:=hi.obs n _ hn;refine⟨λb o v h=>?_,λm ob hm=>?_,λm m' hmm h h'=>hi.inj m m' hmm (on m h) (on m' h'),by rw[setRow_size];exact hi.size,λb hb hm=>?_,λm h=>hi.own m (on m h),hi.f0,hi.fnew,hi.os,hi.tape,hi.output,λD hD=>by rw[setRow_other _ _ _ _ (λe=>by have:=hi.dfr D hD;rw[e,hw]at this;cases this)];exact hi.dfr D hD⟩
 ·rw [cell_setRow_other _ _ _ _ (by
   show b≠g.blk n;rintro rfl;rw[hF]at h;cases h)]
  exact hi.frz b o v h
 ·rw [hlook]at hm;by_cases hmn:m=n
  ·subst hmn;rw[if_pos rfl]at hm;obtain rfl:=za hm;exact⟨arr',T,setRow_heap w _ _ _ _ _ hw,h1,h2,h3,h4,hF⟩
  ·rw [if_neg hmn]at hm;have hob:=hi.obs m ob hm;cases ob with
   |cells s c=>
    have hne:g.blk m≠g.blk n:=hi.inj m n hmn (by unfold On;rw[hm];trivial) hon;obtain⟨a',T',e1,er⟩:=hob;exact⟨a',T',by rw[setRow_other _ _ _ _ hne];exact e1,er⟩
   |tag m' t'=>
    obtain⟨a',fz',e⟩:=hob;by_cases hb:g.blk m'=g.blk n
    ·rw [hb,hw]at e;cases e;exact⟨_,_,by rw[hb];exact setRow_heap w _ _ _ _ _ hw⟩
    ·exact ⟨a',fz',by rw[setRow_other _ _ _ _ hb];exact e⟩
   |vec t' sz' es' f'=>exact ZM.mono hob (λ_ _ _ h=>h) rfl rfl rfl rfl (λhh=>setRow_other _ _ _ _ (hi.inj m n hmn (by unfold On;rw[hm];exact hh) hon)) (λ_ _ h=>h)
   |tail=>
    refine⟨λhh=>?_,hob.2⟩;have hne:g.blk m≠g.blk n:=hi.inj m n hmn (by unfold On;rw[hm];exact hh) hon;obtain⟨a',T',e1,er⟩:=hob.1 hh;exact⟨a',T',by rw[setRow_other _ _ _ _ hne];exact e1,er⟩
   |frame sz l=>exact hob
   |loop k ps asg body st pd=>
    have hne:g.blk m≠g.blk n:=hi.inj m n hmn (by unfold On;rw[hm];trivial) hon;obtain⟨fn,D,e⟩:=hob;exact⟨fn,D,by rw[setRow_other _ _ _ _ hne];exact e⟩
   |mp b ag tp l=>exact ZQ.mono hob (λ_ _ _ h=>h) rfl rfl rfl rfl (λhh=>setRow_other _ _ _ _ (hi.inj m n hmn (by unfold On;rw[hm];exact hh) hon)) (λ_ _ h=>h)
 ·have hne:b≠g.blk n:=by
   rintro rfl;rcases hi.own n hon with h|h
   ·omega
   ·exact hm h
  rw[setRow_other _ _ _ _ hne];exact hi.pres b hb hm
theorem ZC(xs ys:Array Value)(off j:Nat)(h:off+ys.size<=xs.size)(hj:j<xs.size):((xs.toList.take off++ys.toList++xs.toList.drop (off+ys.size)).toArray).getD j undef=if off<=j/\j<off+ys.size then ys.getD (j-off) undef else xs.getD j undef:=by
 have hlen:(xs.toList.take off++ys.toList++xs.toList.drop (off+ys.size)).length=xs.size:=by simp;omega
 have e1:∀(A:Array Value) (i:Nat) (h:i<A.size),A.getD i undef=A[i]:=λA i h=>by rw[Array.getD,dif_pos h];rfl
 rw[e1 _ _ (by simpa using(by omega:j<(xs.toList.take off++ys.toList++xs.toList.drop (off+ys.size)).length))];simp only[List.getElem_toArray];by_cases h1:j<off
 ·rw [if_neg (by omega),e1 _ _ hj,zx (by simp;omega),zx (by simp;omega),xl];simp
 ·by_cases h2:j<off+ys.size
  ·rw [if_pos ⟨by omega,h2⟩,e1 _ _ (by omega),zx (by simp;omega),yb (by simp;omega)];simp only[zy,wq,Vd];congr 1;omega
  ·rw [if_neg (by omega),e1 _ _ hj,yb (by simp;omega),xm];simp only[Vd];congr 1;simp;omega
theorem QJn(hti:QU P ti)(hop:o.op= .store t x y)(hdst:∀d,o.dst=some d->d<N)(ht:ti t=some ty)(hx:ρ σ.sl x=some (.ptr n off))(hy:ρ σ.sl y=some v)(hm:look n σ.mem=some (.cells size c))(hc:XM v=some (k,l))
  (hk:k=ty.size) (hle:off+k<=size) (hno:o.dst=none) (hK:K ⟨σ.sl,(n,.cells size (c.take off++l++c.drop (off+k)))::σ.mem,σ.nx⟩):Zz P N o σ K:=by
 obtain⟨u,i,ht⟩:=QE (hti _ _ ht);intro κ g a w hst next Q hn
 obtain⟨q1,q2,q3,q4,q5⟩:=Ji hc (ρ_ok hst.sl hy) (ρ_lt hst.ok hy);have hx':=ρ_ok hst.sl hx;generalize ha:a.eval x=p at hx';cases hx' with|ptr=>?_
 obtain⟨arr,T,e1,e2,e3,e4,e5,e6⟩:=hst.inv.obs n _ hm;have hone:∀v∈(a.eval y).cells.toList,v.oneCell'=true:=λv hv=>by
  obtain⟨j,hj,rfl⟩:=yy.1 hv;have hj':j<l.length:=by simp at hj;omega
  have:=(q5 j hj').one (q3 j hj');simpa [Array.getD,show j<(a.eval y).cells.size by simpa using hj]using this
 have hst':=run_storeCells_at P (g.blk n) off T (a.eval y).cells.toList 0 arr w e1 (by simp;omega) hone;have hr:(execOp a.eval o).run P w= .ok .skip (w.setRow (g.blk n) (arr.toList.take (off+0)++(a.eval y).cells.toList++arr.toList.drop (off+0+(a.eval y).cells.toList.length)).toArray):=by
  simp only[execOp,hop,ha,Instr.storeAt,Instr.sureAddr,storeVar,zp,zq,zg,QV ht.info,ht.size,ww];rw[if_neg (by omega),hst'];rfl
 simp only[x6,wq]at hr;refine Yx hr (hn g _ _ _ hK ?_);rw[hno];refine⟨hst.size,hst.defers,hst.sl,hst.inv.write hm e1 (by simp;omega) (by simp;omega) (λj hj=>?_) λj hj=>?_,?_⟩
 ·have:=zm hj;rcases yd.1 this with h|h
  ·rcases yd.1 h with h|h
   ·obtain ⟨j',hj',he⟩:=yy.1 (xg h);rw[<-he];exact e4 _ _
   ·obtain ⟨j',hj',he⟩:=yy.1 h;rw[<-he];exact q3 _ _
  ·obtain ⟨j',hj',he⟩:=yy.1 (xx h);rw[<-he];exact e4 _ _
 ·have hj':j<size:=by simp only[zu,zy,ym]at hj;omega
  rw[ZC _ _ _ _ (by omega) (by omega)];by_cases h1:j<off
  ·rw [if_neg (by omega),zx (by simp;omega),zx (by simp;omega),xl];exact e5 _ _
  ·by_cases h2:j<off+k
   ·rw [if_pos (by omega),zx (by simp;omega),yb (by simp;omega)];have:=q5 (j-off) (by omega);simpa [show min off c.length=off by omega]using this
   ·rw [if_neg (by omega),yb (by simp;omega),xm];have:=e5 j (by omega);have e:off+k+(j-(List.take off c++l).length)=j:=by simp;omega
    simpa only[e]using this
 ·rw [S.ok_iff];refine⟨(S.ok_iff.1 hst.ok).1,λp hp=>?_⟩;rcases zi.1 hp with rfl|hp
  ·have h0:=S.ok_mem hst.ok hm;refine⟨h0.1,?_⟩;simp only[Ob.lt,ze]at h0⊢;intro x hx;rcases yd.1 hx with h|h
   ·rcases yd.1 h with h|h
    ·exact h0.2 x (xg h)
    ·exact q4 x h
   ·exact h0.2 x (xx h)
  ·exact S.ok_memAll hst.ok p hp
theorem QJo(sz m off len cap:Nat):(AV.ms sz m off len cap).lt (m+1)=true:=by simp[AV.lt,AV.lt2,AV.lt1,AV.lt0]
theorem QL5{len:Nat}{e:TypeId}(hd:o.dst=some d)(hdN:d<N)(hlc:len<=cap)
  (hrun:∀(κ:Ctx) (g:Gh) (a:Act) (w:World),St κ N g σ a w->∃arr:Array Value,(execOp a.eval o).run P w= .ok (.value (.slice (some ⟨w.heap.size,0,none⟩) len cap)) (w.alloc (.cells arr e))/\arr.size=k/\l.length=k/\(∀j (h:j<l.length),l[j].sc=true)/\(∀x∈l,x.lt1 σ.nx=true)/\∀j (h:j<l.length),AVR g l[j] (arr.getD j undef))
  (hK:K ⟨(d,.ms sz σ.nx 0 len cap)::σ.sl,(σ.nx,.cells k l)::σ.mem,σ.nx+1⟩):Zz P N o σ K:=by
 intro κ g a w hst next Q hn
 obtain⟨arr,hr,e1,e2,e3,e4,e5⟩:=hrun κ g a w hst;obtain⟨g',he,hb,hi'⟩:=hst.inv.newCells (w':=w.alloc (.cells arr e)) hst.ok rfl rfl rfl rfl (e2.trans e1.symm) e3 e4 e5;refine Qc hr (hn g' _ _ _ hK ?_);rw[hd];rw[e1]at hi';refine hst.put hdN he hi' (by rw[<-hb];exact .ms _ _ _ _ _ _ (λ_=>rfl) hlc) (S.ok_cons hst.ok (y3 _) (QJo _ _ _ _ _) λp hp=>?_);rcases zi.1 hp with rfl|hp
 ·refine ⟨y6 _,?_⟩;simp only[Ob.lt,ze];exact λx hx=>AV.lt1_mono (e4 x hx) (y3 _)
 ·have:=S.ok_memAll hst.ok p hp;exact⟨by omega,Ob.lt_mono this.2 (y3 _)⟩
theorem QL6{e:Nat}{kl kc:IntKind}{len cap:Int}(hti:QU P ti)(hop:o.op= .makeSlice t x y)(hd:o.dst=some d)(hdN:d<N)(ht:ti t=some ty)(hk:ty.kd= .slice e)(he:ti e=some ety)(hx:ρ σ.sl x=some (.d (.it kl len)))(hy:ρ σ.sl y=some (.d (.it kc cap)))
  (hz:ety.zero.length=ety.size) (h0:0<ety.size) (hb:0<=len/\len<=cap/\cap<=281474976710656/\ety.bytes*cap<=281474976710656)
  (hK:K ⟨(d,.ms ety.size σ.nx 0 len.toNat cap.toNat)::σ.sl,(σ.nx,.cells (cap.toNat*ety.size) ((Zx cap.toNat ety.zero).map toA))::σ.mem,σ.nx+1⟩):Zz P N o σ K:=by
 obtain⟨u,i,ht⟩:=QE (hti _ _ ht);obtain⟨ue,ie,het⟩:=QE (hti _ _ he);obtain rfl:=Q3 ht hk;refine QL5 (e:=e) hd hdN (by omega) (λκ g a w hst=>?_) hK;obtain⟨zv,hzv,hLR,hLA⟩:=Zl (g:=g) (z:=ie.zero) (h:=slH P 6 e) (by rw[het.zero];omega);rw[het.zero]at hLR hLA;have hzs:zv.cells.size=ety.size:=by rw[<-hLR.1,hz]
 have h1:=ZI (ρ_ok hst.sl hx);have h2:=ZI (ρ_ok hst.sl hy);refine⟨Go.madeCells zv.cells (cap.toNat*ety.size),?_,Go.size_madeCells _ _,by rw[zb,Xp,hz],λj hj=>by simp only[z1];exact QEP _,λv hv=>?_,λj hj=>?_⟩
 ·have hr:=Go.run_make (P:=P) w t e ie zv ht.und het.info hzv kl kc len cap hb.1 hb.2.1 (by rw[het.bytes];exact hb.2.2.2) (by omega);rw[het.size]at hr;simp only[execOp,hop,h1,h2,zp,hr,zg,zq]
 ·obtain ⟨z,_,rfl⟩:=yf.1 hv;exact QAM _ _
 ·simp only[zb]at hj;simp only[z1];obtain⟨q1,q2⟩:=QCb _ _ _ hj;rw[q2];have:=hLA.2 (j % ety.zero.length) (by simpa using q1);simp only[z1]at this;have hjn:j<cap.toNat*ety.size:=by rw[Xp,hz]at hj;exact hj
  have hmod:j % zv.cells.size<zv.cells.size:=u6 _ (by omega);have e:(Go.madeCells zv.cells (cap.toNat*ety.size)).getD j undef=zv.cells.getD (j % ety.zero.length) undef:=by
   rw[hz,<-hzs];simp[Go.madeCells,Array.getD,hjn,hzs,hmod,show j % ety.size<ety.size by rw[<-hzs];exact hmod]
  rw[e];exact this
theorem QFo(m:Nat):∀(rounds c:Nat),c<=m+(m+768)/4->Builtin.growBy m rounds c<=m+(m+768)/4
 |0,c,h=>h
 |r+1,c,h=>by
  simp only[Builtin.growBy];split
  ·exact h
  ·refine QFo m r _ ?_;have:(c+768)/4<=(m+768)/4:=Nat.div_le_div_right (by omega);omega
theorem QK0(need cap:Nat)(h:cap<need):Builtin.nextslicecap need cap<=2*need+192:=by
 unfold Builtin.nextslicecap;split
 ·omega
 ·split
  ·omega
  ·refine xy (QFo need 4 cap (by omega)) ?_;omega
structure QOJ(P:Program)(ats:Array TypeId)(e:Nat)(i:TypeInfo):Prop where
 ex:∃t t' d,ats[0]? =some t/\ats[1]? =some t'/\P.underlying t=some (.slice e)/\P.underlying t'=some d/\∀k,d≠ .int k
 info:P.info? e=some i
def X4:Option Addr->Nat->List Value->Sem Unit
 |some a,k,vs=>storeCells (a.add k) vs
 |none,_,_=>pure ()
theorem YD{ats:Array TypeId}{e:Nat}{i:TypeInfo}(ht:QOJ P ats e i)(ty:TypeId){x:Value}(hlen:(Builtin.lenOf x).run P w= .ok n w)(hfirst:(Builtin.firstCells i.size n x).run P w= .ok news w)
  (hle:sLen+n<=sCap) (hst:(X4 base (sLen*i.size) news.toList).run P w= .ok () w'):
  (Builtin.append_ ats ty #[.slice base sLen sCap,x]).run P w= .ok (.slice base (sLen+n) sCap) w':=by
 obtain⟨t,t',d,e0,e1,e2,e3,e4⟩:=ht.ex;have hd:(d matches .int _)=false:=by cases d<;>first|rfl|exact absurd rfl (e4 _)
 have g0:(#[Value.slice base sLen sCap,x]:Array Value)[0]? =some (.slice base sLen sCap):=rfl;have g1:(#[Value.slice base sLen sCap,x]:Array Value)[1]? =some x:=rfl;simp only[Builtin.append_,e0,e1,g0,g1,zp,run_underlying e2,run_underlying e3,zg,QV ht.info,zq,hd,yw,if_false,hlen,if_pos hle,u4,if_true,hfirst,ww];cases base with
 |none=>
  simp only[X4,zq,ja,true_and]at hst;subst hst;rfl
 |some a=>
  simp only[X4]at hst;simp only[zp,hst,zg,zq]
theorem QAU{ats:Array TypeId}{e:Nat}{i:TypeInfo}(ht:QOJ P ats e i)(ty:TypeId){x:Value}{zv:Array Value}(hlen:(Builtin.lenOf x).run P w= .ok n w)(hfirst:∀w',w'.heap=w.heap->(Builtin.firstCells i.size n x).run P w'= .ok news w')
  (hold:∀w',w'.heap=w.heap->(Builtin.firstCells i.size sLen (.slice base sLen sCap)).run P w'= .ok olds w') (hle:sCap<sLen+n) (hlim:sLen+n<=1073741824) (hb:i.bytes<=65536) (hz:i.zero=some z):
  ∃cap rest,sLen+n<=cap/\rest=Builtin.zeroCells z.cells (cap-(sLen+n))/\(Builtin.append_ ats ty #[.slice base sLen sCap,x]).run P w= .ok (.slice (some ⟨w.heap.size,0,none⟩) (sLen+n) cap) (w.drew.alloc (.cells (olds++news++rest) e)):=by
 obtain⟨t,t',d,e0,e1,e2,e3,e4⟩:=ht.ex;have hd:(d matches .int _)=false:=by cases d<;>first|rfl|exact absurd rfl (e4 _)
 have g0:(#[Value.slice base sLen sCap,x]:Array Value)[0]? =some (.slice base sLen sCap):=rfl;have g1:(#[Value.slice base sLen sCap,x]:Array Value)[1]? =some x:=rfl;have hmax:IntKind.i64.max=9223372036854775807:=by decide
 have c1:¬(((sLen+n:Nat):Int)>IntKind.i64.max/\(false=true\/i.bytes=0)):=by rw[hmax];omega
 have c2:¬Builtin.nextslicecap (sLen+n) sCap*i.bytes>2 ^ 48:=by
  have h1:=QK0 (sLen+n) sCap hle;have h2:Builtin.nextslicecap (sLen+n) sCap*i.bytes<=(2*(sLen+n)+192)*65536:=W6 h1 hb;have h3:(2*(sLen+n)+192)*65536<=2 ^ 48:=by omega
  omega
 refine⟨(Question.appendCap (sLen+n) sCap e).cut (w.tape w.drawn (.appendCap (sLen+n) sCap e)),_,ji _ _,rfl,?_⟩;have hf:(Question.appendCap (sLen+n) sCap e).forced=false:=rfl;simp only[Builtin.append_,e0,e1,g0,g1,zp,run_underlying e2,run_underlying e3,zg,QV ht.info,zq,hd,yw,if_false,hlen,if_neg (Nat.not_le.2 hle),ZE ht.info,ww,c1,c2,run_choose,hf,run_askRoom,u4,if_true];have c1':¬(((sLen+n:Nat):Int)>IntKind.i64.max/\i.bytes=0):=by rw[hmax];omega
 simp only[false_or,if_neg c1',World.drew_eq];rw[hold w.drew rfl];simp only[zg];rw[hfirst w.drew rfl];simp only[zg,zeroValue,zp,ZE ht.info,hz,zq,newRow,run_newObj,World.size_drew];rfl
end
structure JU(m M:Nat)(g g':Gh):Prop where
 F:∀b o v,g.F b o=some v->g'.F b o=some v
 blk:∀n,n<M->n≠m->g'.blk n=g.blk n
 hi:∀n,n<M->n≠m->g'.hi n=g.hi n
 cp:∀n,n<M->n≠m->g'.cp n=g.cp n
 has:∀n,n<M->n≠m->g'.has n=g.has n
theorem Qy{a b:Nat}(h:a≠b):Nat.beq a b=false:=by
 cases hk:Nat.beq a b with
 |true=>exact absurd (zh hk) h
 |false=>rfl
theorem AVR.dn0(he:JU m M g g'){x:AV}{v:Value}(hl:x.lt0 M=true)(h:AVR g x v):AVR g' (x.down0 m) v:=by
 cases h with
 |d x v h=>exact .d x v (h.mono he.F)
 |dg k cs vs h1 h2 h=>exact .dg k cs vs h1 h2 λj hj=>(h j hj).mono he.F
 |ag=>cases hl
 |tup=>cases hl
 |fn=>cases hl
 |ptr n off=>
  simp only[AV.lt0,yc]at hl;simp only[AV.down0];by_cases hn:n=m
  ·subst hn;rw[wc];exact .jk _ rfl
  ·rw [Qy hn,cond_false,<-he.blk n hl hn];exact .ptr n off
 |ms sz n off len cap ad had hc=>
  simp only[AV.lt0,yc]at hl;simp only[AV.down0];by_cases hn:n=m
  ·subst hn;rw[wc];exact .jk _ rfl
  ·rw [Qy hn,cond_false];exact .ms sz n off len cap ad (λh=>by rw[he.blk n hl hn];exact had h) hc
 |ts0 _ _ n a len hl1 hd hh hz=>
  simp only[AV.lt0,yc]at hl;simp only[AV.down0];by_cases hn:n=m
  ·subst hn;rw[wc];exact .d _ _ (hd.mono he.F)
  ·rw [Qy hn,cond_false];exact .ts0 _ _ _ a len hl1 (hd.mono he.F) ((he.has n hl hn).trans hh) λh=>hz ((he.hi n hl hn).symm.trans h)
 |ts sz es n off len cap h0 hn hd hl' hc h1 h2 hpos=>
  simp only[AV.lt0,yc]at hl;simp only[AV.down0];by_cases hnm:n=m
  ·subst hnm;rw[wc];exact .d _ _ (hd.mono he.F)
  ·rw [Qy hnm,cond_false];rw[<-he.blk n hl hnm]at hd⊢;exact .ts sz es n off len cap h0 ((he.has n hl hnm).trans hn) (hd.mono he.F) hl' hc (h1.trans (he.hi n hl hnm).symm) (h2.trans (he.cp n hl hnm).symm) hpos
 |tg sz es a len hl' hd=>exact .tg sz es a len hl' (hd.mono he.F)
 |nl sz=>exact .nl sz
 |sd es n p h=>
  simp only[AV.lt0,yc]at hl;simp only[AV.down0];by_cases hn:n=m
  ·subst hn;rw[wc];exact .jk _ rfl
  ·rw [Qy hn,cond_false];refine .sd es n p λhne=>?_;obtain⟨off,len,cap,k1,k2,k3,k4,k5⟩:=h hne;exact⟨off,len,cap,by rw[he.blk n hl hn];exact k1,(he.has n hl hn).trans k2,k3.mono he.F,k4,k5.trans (he.hi n hl hn).symm⟩
 |yld n=>
  simp only[AV.lt0,yc]at hl;simp only[AV.down0];by_cases hn:n=m
  ·subst hn;rw[wc];exact .jk _ rfl
  ·rw [Qy hn,cond_false,<-he.blk n hl hn];exact .yld n
 |mp n r h=>
  simp only[AV.lt0,yc]at hl;simp only[AV.down0];by_cases hn:n=m
  ·subst hn;rw[wc];exact .jk _ rfl
  ·rw [Qy hn,cond_false];exact AVR.mpr (he.blk n hl hn) (he.has n hl hn) (.mp n r h)
 |vx sz n i len ad c hc had=>
  simp only[AV.lt0,yc]at hl;simp only[AV.down0];by_cases hn:n=m
  ·subst hn;rw[wc];exact .jk _ rfl
  ·rw [Qy hn,cond_false];exact .vx sz n i len ad c hc (by unfold QH6;rw[he.has n hl hn,he.blk n hl hn,he.hi n hl hn,he.cp n hl hn];exact had)
 |vq sz n k off h=>
  simp only[AV.lt0,yc]at hl;simp only[AV.down0];by_cases hn:n=m
  ·subst hn;rw[wc];exact .jk _ rfl
  ·rw [Qy hn,cond_false,<-he.blk n hl hn,<-he.hi n hl hn];exact .vq sz n k off ((he.has n hl hn).trans h)
 |jk v h=>exact .jk v h
 |junk v=>exact .junk v
theorem AVR.dn1(he:JU m M g g'){x:AV}{v:Value}(hl:x.lt1 M=true)(h:AVR g x v):AVR g' (x.down1 m) v:=by
 by_cases hx:∃f a b,x= .fn f a b
 ·obtain ⟨f,a,b,rfl⟩:=hx;cases h with
  |fn _ _ _ vs ws h1 h2 h3 h4=>
   simp only[AV.lt1,ze,zf]at hl;refine .fn _ _ _ vs ws (by simpa using h1) (by simpa using h2) (λj hj=>?_) λj hj=>?_
   ·simp only[zb]at hj;simp only[z1];exact(h3 j hj).dn0 he (hl.1 _ (zm hj))
   ·simp only[zb]at hj;simp only[z1];exact(h4 j hj).dn0 he (hl.2 _ (zm hj))
 ·have e:x.down1 m=x.down0 m:=by cases x<;>first|rfl|exact absurd ⟨_,_,_,rfl⟩ hx
  rw[e];exact h.dn0 he (by cases x<;>first|exact hl|exact absurd ⟨_,_,_,rfl⟩ hx)
theorem Jk(m:Nat)(x:AV):(x.down1 m).sc=x.sc:=by
 cases x with
 |ts sz es n=>simp only[AV.down1,AV.down0];cases Nat.beq n m<;>rfl
 |ptr n off=>simp only[AV.down1,AV.down0];cases Nat.beq n m<;>rfl
 |yld n=>simp only[AV.down1,AV.down0];cases Nat.beq n m<;>rfl
 |mp n=>simp only[AV.down1,AV.down0];cases Nat.beq n m<;>rfl
 |sd es n=>simp only[AV.down1,AV.down0];cases Nat.beq n m<;>rfl
 |ms sz n off len cap=>simp only[AV.down1,AV.down0];cases Nat.beq n m<;>rfl
 |vx sz n i len=>simp only[AV.down1,AV.down0];cases Nat.beq n m<;>rfl
 |vq sz n k off=>simp only[AV.down1,AV.down0];cases Nat.beq n m<;>rfl
 |_=>rfl
theorem AVR.dn2(he:JU m M g g'){x:AV}{v:Value}(hl:x.lt2 M=true)(h:AVR g x v):AVR g' (x.down2 m) v:=by
 by_cases hx:∃k cs,x= .ag k cs
 ·obtain ⟨k,cs,rfl⟩:=hx;cases h with
  |ag _ _ vs h1 h2 h3 h=>
   simp only[AV.lt2,ze]at hl;refine .ag _ _ vs h1 (by simpa using h2) (λj hj=>?_) λj hj=>?_
   ·simp only[zb]at hj;simp only[z1,Jk];exact h3 j hj
   ·simp only[zb]at hj;simp only[z1];exact(h j hj).dn1 he (hl _ (zm hj))
 ·have e:x.down2 m=x.down1 m:=by cases x<;>first|rfl|exact absurd ⟨_,_,rfl⟩ hx
  rw[e];exact h.dn1 he (by cases x<;>first|exact hl|exact absurd ⟨_,_,rfl⟩ hx)
theorem AVR.dn(he:JU m M g g'){x:AV}{v:Value}(hl:x.lt M=true)(h:AVR g x v):AVR g' (x.down m) v:=by
 by_cases hx:∃cs,x= .tup cs
 ·obtain ⟨cs,rfl⟩:=hx;cases h with
  |tup _ vs h1 h=>
   simp only[AV.lt,ze]at hl;refine .tup _ vs (by simpa using h1) λj hj=>?_;simp only[zb]at hj;simp only[z1];exact(h j hj).dn2 he (hl _ (zm hj))
 ·have e:x.down m=x.down2 m:=by cases x<;>first|rfl|exact absurd ⟨_,rfl⟩ hx
  rw[e];exact h.dn2 he (by cases x<;>first|exact hl|exact absurd ⟨_,rfl⟩ hx)
theorem QOK{x:AV}(h:x.lt0 M=true):(x.down0 m).lt0 M=true:=by
 cases x with
 |ts sz es n=>simp only[AV.down0];cases Nat.beq n m<;>first|exact h|rfl
 |ptr n off=>simp only[AV.down0];cases Nat.beq n m<;>first|exact h|rfl
 |yld n=>simp only[AV.down0];cases Nat.beq n m<;>first|exact h|rfl
 |mp n=>simp only[AV.down0];cases Nat.beq n m<;>first|exact h|rfl
 |sd es n=>simp only[AV.down0];cases Nat.beq n m<;>first|exact h|rfl
 |ms sz n off len cap=>simp only[AV.down0];cases Nat.beq n m<;>first|exact h|rfl
 |vx sz n i len=>simp only[AV.down0];cases Nat.beq n m<;>first|exact h|rfl
 |vq sz n k off=>simp only[AV.down0];cases Nat.beq n m<;>first|exact h|rfl
 |_=>exact h
theorem QBT{x:AV}(h:x.lt1 M=true):(x.down1 m).lt1 M=true:=by
 cases x with
 |fn f a b=>
  simp only[AV.lt1,AV.down1,ze,zf,yf]at h⊢;exact⟨λx ⟨y,hy,e⟩=>e▸QOK (h.1 y hy),λx ⟨y,hy,e⟩=>e▸QOK (h.2 y hy)⟩
 |ts sz es n=>simp only[AV.down1,AV.down0];cases Nat.beq n m<;>first|exact h|rfl
 |ptr n off=>simp only[AV.down1,AV.down0];cases Nat.beq n m<;>first|exact h|rfl
 |yld n=>simp only[AV.down1,AV.down0];cases Nat.beq n m<;>first|exact h|rfl
 |mp n=>simp only[AV.down1,AV.down0];cases Nat.beq n m<;>first|exact h|rfl
 |sd es n=>simp only[AV.down1,AV.down0];cases Nat.beq n m<;>first|exact h|rfl
 |ms sz n off len cap=>simp only[AV.down1,AV.down0];cases Nat.beq n m<;>first|exact h|rfl
 |vx sz n i len=>simp only[AV.down1,AV.down0];cases Nat.beq n m<;>first|exact h|rfl
 |vq sz n k off=>simp only[AV.down1,AV.down0];cases Nat.beq n m<;>first|exact h|rfl
 |_=>exact h
theorem QOL{x:AV}(h:x.lt2 M=true):(x.down2 m).lt2 M=true:=by
 cases x with
 |ag k cs=>
  simp only[AV.lt2,AV.down2,ze,yf]at h⊢;exact λx ⟨y,hy,e⟩=>e▸QBT (h y hy)
 |fn f a b=>exact QBT (x:= .fn f a b) h
 |ts sz es n=>simp only[AV.down2,AV.down1,AV.down0];cases Nat.beq n m<;>first|exact h|rfl
 |ptr n off=>simp only[AV.down2,AV.down1,AV.down0];cases Nat.beq n m<;>first|exact h|rfl
 |yld n=>simp only[AV.down2,AV.down1,AV.down0];cases Nat.beq n m<;>first|exact h|rfl
 |mp n=>simp only[AV.down2,AV.down1,AV.down0];cases Nat.beq n m<;>first|exact h|rfl
 |sd es n=>simp only[AV.down2,AV.down1,AV.down0];cases Nat.beq n m<;>first|exact h|rfl
 |ms sz n off len cap=>simp only[AV.down2,AV.down1,AV.down0];cases Nat.beq n m<;>first|exact h|rfl
 |vx sz n i len=>simp only[AV.down2,AV.down1,AV.down0];cases Nat.beq n m<;>first|exact h|rfl
 |vq sz n k off=>simp only[AV.down2,AV.down1,AV.down0];cases Nat.beq n m<;>first|exact h|rfl
 |_=>exact h
theorem QIO{x:AV}(h:x.lt M=true):(x.down m).lt M=true:=by
 cases x with
 |tup vs=>
  simp only[AV.lt,AV.down,ze,yf]at h⊢;exact λx ⟨y,hy,e⟩=>e▸QOL (h y hy)
 |fn f a b=>exact QBT (x:= .fn f a b) h
 |ag k cs=>exact QOL (x:= .ag k cs) h
 |ts sz es n=>simp only[AV.down,AV.down2,AV.down1,AV.down0];cases Nat.beq n m<;>first|exact h|rfl
 |ptr n off=>simp only[AV.down,AV.down2,AV.down1,AV.down0];cases Nat.beq n m<;>first|exact h|rfl
 |yld n=>simp only[AV.down,AV.down2,AV.down1,AV.down0];cases Nat.beq n m<;>first|exact h|rfl
 |mp n=>simp only[AV.down,AV.down2,AV.down1,AV.down0];cases Nat.beq n m<;>first|exact h|rfl
 |sd es n=>simp only[AV.down,AV.down2,AV.down1,AV.down0];cases Nat.beq n m<;>first|exact h|rfl
 |ms sz n off len cap=>simp only[AV.down,AV.down2,AV.down1,AV.down0];cases Nat.beq n m<;>first|exact h|rfl
 |vx sz n i len=>simp only[AV.down,AV.down2,AV.down1,AV.down0];cases Nat.beq n m<;>first|exact h|rfl
 |vq sz n k off=>simp only[AV.down,AV.down2,AV.down1,AV.down0];cases Nat.beq n m<;>first|exact h|rfl
 |_=>exact h
theorem X5(m k:Nat):∀l:List (Nat×AV),look k (XJ m l)=(look k l).map (AV.down m)
 |[]=>rfl
 |(a,b)::t=>by
  simp only[XJ,look,X5 m k t];cases Nat.beq k a<;>rfl
theorem X6(m k:Nat):∀l:List (Nat×Ob),look k (ZJ m l)=(look k l).map (Ob.down m)
 |[]=>rfl
 |(a,b)::t=>by
  simp only[ZJ,look,X6 m k t];cases Nat.beq k a<;>rfl
theorem QAp{m:Nat}{p:Nat×AV}:∀ {l:List (Nat×AV)},p∈XJ m l->∃q∈l,p=(q.1,q.2.down m)
 |(a,b)::t,h=>by
  simp only[XJ,zi]at h;rcases h with rfl|h
  ·exact ⟨_,zo,rfl⟩
  ·obtain ⟨q,hq,e⟩:=QAp h;exact⟨q,zk _ hq,e⟩
theorem QAq{m:Nat}{p:Nat×Ob}:∀ {l:List (Nat×Ob)},p∈ZJ m l->∃q∈l,p=(q.1,q.2.down m)
 |(a,b)::t,h=>by
  simp only[ZJ,zi]at h;rcases h with rfl|h
  ·exact ⟨_,zo,rfl⟩
  ·obtain ⟨q,hq,e⟩:=QAq h;exact⟨q,zk _ hq,e⟩
theorem Qn{x:AV}(h:x.lt0 m=true):x.down0 m=x:=by
 cases x with
 |ts sz es n=>simp only[AV.lt0,yc]at h;simp only[AV.down0];rw[Qy (by omega)];rfl
 |ptr n off=>simp only[AV.lt0,yc]at h;simp only[AV.down0];rw[Qy (by omega)];rfl
 |yld n=>simp only[AV.lt0,yc]at h;simp only[AV.down0];rw[Qy (by omega)];rfl
 |mp n=>simp only[AV.lt0,yc]at h;simp only[AV.down0];rw[Qy (by omega)];rfl
 |sd es n=>simp only[AV.lt0,yc]at h;simp only[AV.down0];rw[Qy (by omega)];rfl
 |ms sz n off len cap=>simp only[AV.lt0,yc]at h;simp only[AV.down0];rw[Qy (by omega)];rfl
 |vx sz n i len=>simp only[AV.lt0,yc]at h;simp only[AV.down0];rw[Qy (by omega)];rfl
 |vq sz n k off=>simp only[AV.lt0,yc]at h;simp only[AV.down0];rw[Qy (by omega)];rfl
 |_=>rfl
theorem map_id'{α:Type}{f:α->α}:∀ {l:List α},(∀x∈l,f x=x)->l.map f=l
 |[],_=>rfl
 |a::t,h=>by rw[w8,h a zo,map_id' λx hx=>h x (zk _ hx)]
theorem QAr{x:AV}(h:x.lt1 m=true):x.down1 m=x:=by
 cases x with
 |fn f a b=>
  simp only[AV.lt1,ze,zf]at h;simp only[AV.down1,map_id' λx hx=>Qn (h.1 x hx),map_id' λx hx=>Qn (h.2 x hx)]
 |ts sz es n=>exact Qn (x:= .ts sz es n) h
 |ptr n off=>exact Qn (x:= .ptr n off) h
 |yld n=>exact Qn (x:= .yld n) h
 |mp n=>exact Qn (x:= .mp n) h
 |sd es n=>exact Qn (x:= .sd es n) h
 |ms sz n off len cap=>exact Qn (x:= .ms sz n off len cap) h
 |vx sz n i len=>exact Qn (x:= .vx sz n i len) h
 |vq sz n k off=>exact Qn (x:= .vq sz n k off) h
 |_=>rfl
theorem QFp{x:AV}(h:x.lt2 m=true):x.down2 m=x:=by
 cases x with
 |ag k cs=>
  simp only[AV.lt2,ze]at h;simp only[AV.down2,map_id' λx hx=>QAr (h x hx)]
 |fn f a b=>exact QAr (x:= .fn f a b) h
 |ts sz es n=>exact Qn (x:= .ts sz es n) h
 |ptr n off=>exact Qn (x:= .ptr n off) h
 |yld n=>exact Qn (x:= .yld n) h
 |mp n=>exact Qn (x:= .mp n) h
 |sd es n=>exact Qn (x:= .sd es n) h
 |ms sz n off len cap=>exact Qn (x:= .ms sz n off len cap) h
 |vx sz n i len=>exact Qn (x:= .vx sz n i len) h
 |vq sz n k off=>exact Qn (x:= .vq sz n k off) h
 |_=>rfl
theorem QOM{x:AV}(h:x.lt m=true):x.down m=x:=by
 cases x with
 |tup vs=>
  simp only[AV.lt,ze]at h;simp only[AV.down,map_id' λx hx=>QFp (h x hx)]
 |fn f a b=>exact QAr (x:= .fn f a b) h
 |ag k cs=>exact QFp (x:= .ag k cs) h
 |ts sz es n=>exact Qn (x:= .ts sz es n) h
 |ptr n off=>exact Qn (x:= .ptr n off) h
 |yld n=>exact Qn (x:= .yld n) h
 |mp n=>exact Qn (x:= .mp n) h
 |sd es n=>exact Qn (x:= .sd es n) h
 |ms sz n off len cap=>exact Qn (x:= .ms sz n off len cap) h
 |vx sz n i len=>exact Qn (x:= .vx sz n i len) h
 |vq sz n k off=>exact Qn (x:= .vq sz n k off) h
 |_=>rfl
theorem Zd:∀ {l:List (Nat×AV)},(∀p∈l,p.2.lt m=true)->XJ m l=l
 |[],_=>rfl
 |(a,b)::t,h=>by simp only[XJ,QOM (h _ zo),Zd λp hp=>h p (zk _ hp)]
theorem Zo{m:Nat}:∀ {l:List (Nat×Ob)},(∀p∈l,p.2.lt m=true)->ZJ m l=l
 |[],_=>rfl
 |(a,b)::t,h=>by
  have hb:b.down m=b:=by
   have:=h _ zo;cases b with
   |cells size c=>
    simp only[Ob.lt,ze]at this;simp only[Ob.down,map_id' λx hx=>QAr (this x hx)]
   |tail=>rfl
   |vec=>rfl
   |tag m' t=>simp only[Ob.lt,yc]at this;simp only[Ob.down];rw[Qy (by omega)];rfl
   |frame sz l=>
    simp only[Ob.lt,ze]at this;simp only[Ob.down,Zd this]
   |loop=>rfl
   |mp=>rfl
  simp only[ZJ,hb,Zo λp hp=>h p (zk _ hp)]
variable {F:Nat->Nat->Option Value}
theorem QC5{a:Option Addr}{len:Nat}(h:DR F (.fs k es) (.slice a len cap))(hk:k=sz\/es=[])(hw:∀b o v,F b o=some v->w.cell? ⟨b,o,none⟩=some v):
  len=es.length/\∃cs:Array Value,(∀w',w'.heap=w.heap->(Builtin.firstCells sz len (.slice a len cap)).run P w'= .ok cs w')/\cs.size=es.length*sz/\(∀i (h:i<es.length),es[i].length=sz)/\∀i (h:i<es.length) j (hj:j<es[i].length),DR F es[i][j] (cs.getD (i*sz+j) undef):=by
 cases h with
 |fs0=>
  refine⟨rfl,#[],λw' _=>?_,by simp,(λi h=>by cases h),(λi h=>by cases h)⟩;cases a with
  |none=>rfl
  |some a=>simp[Builtin.firstCells,loadCells,loadCellsFrom]
 |fs _ _ b off _ _ vs hl hc hs hF hr=>
  by_cases he:es=[]
  ·subst he;simp at hl;subst hl;exact⟨rfl,#[],λw' _=>by simp[Builtin.firstCells,loadCells,loadCellsFrom],by simp,(λi h=>by cases h),(λi h=>by cases h)⟩
  ·obtain rfl:=hk.resolve_right he;subst hl;have hk0:es.length*k≠0->0<k:=λh=>by rcases ju k with h0|h0<;>simp_all
   refine⟨rfl,((List.range (es.length*k)).map λx=>vs (x/k) (x % k)).toArray,λw' hw'=>?_,by simp,hs,λi h j hj=>?_⟩
   ·simp only[Builtin.firstCells];refine run_loadCells _ _ _ _ λx hx=>?_;have hk1:=hk0 (by omega);rw[ZB];have hc:=hw _ _ _ (hF (x/k) (x % k) (by rw[ur hk1];exact hx) (u6 _ hk1));rw[show off+x/k*k+x % k=off+x by rw[wl,uj,kg]]at hc;simp only[World.cell?]at hc⊢;rw[hw'];exact hc
   ·have hj':j<k:=by rw[hs i h]at hj;exact hj
    have hlt:i*k+j<es.length*k:=by
     have:(i+1)*k<=es.length*k:=zw _ (by omega);rw[z2]at this;omega
    rw[X0 (λx=>vs (x/k) (x % k)) _ _ hlt];have e1:(i*k+j)/k=i:=by rw[uj,Nat.mul_add_div (by omega),Nat.div_eq_of_lt hj'];rfl
    have e2:(i*k+j) % k=j:=by rw[uj,Nat.mul_add_mod,Wm hj']
    simp only[e1,e2];exact hr i h j hj
def X7(P:Program)(g:Gh)(w:World)(sz:Nat)(es:List (List D))(u:Value):Prop:=
  (Builtin.lenOf u).run P w= .ok es.length w/\∃cs:Array Value,(∀w',w'.heap=w.heap->(Builtin.firstCells sz es.length u).run P w'= .ok cs w')/\cs.size=es.length*sz/\(∀i (h:i<es.length),es[i].length=sz)/\∀i (h:i<es.length) j (hj:j<es[i].length),DR g.F es[i][j] (cs.getD (i*sz+j) undef)
theorem Jx(h:QCc sz v=some es)(hu:AVR g v u)(hw:∀b o v,g.F b o=some v->w.cell? ⟨b,o,none⟩=some v):
  (Builtin.lenOf u).run P w= .ok es.length w/\∃cs:Array Value,(∀w',w'.heap=w.heap->(Builtin.firstCells sz es.length u).run P w'= .ok cs w')/\cs.size=es.length*sz/\(∀i (h:i<es.length),es[i].length=sz)/\∀i (h:i<es.length) j (hj:j<es[i].length),DR g.F es[i][j] (cs.getD (i*sz+j) undef):=by
 unfold QCc at h;split at h
 ·rename_i l;cases hs:Nat.beq sz 1 with
  |false=>rw[hs]at h;cases h
  |true=>
   rw[hs]at h;obtain rfl:=za h;obtain rfl:=zh hs;cases hu with|d _ _ hu=>?_
   cases hu with|st=>?_
   have hsz:(⟨l.toArray⟩:ByteArray).size=l.length:=by simp[ByteArray.size]
   refine⟨by simp[Builtin.lenOf,hsz,QD],(l.map λb=>Value.int .u8 b.toNat).toArray,λw' _=>?_,by simp[QD],λi h=>by simp[QD],λi h j hj=>?_⟩
   ·have he:(⟨l.toArray⟩:ByteArray).extract 0 (QD l).length=⟨l.toArray⟩:=by
     rw[QA8];simp[QD]
    simp only[Builtin.firstCells,he,zq];congr 1;simp
   ·have h':i<l.length:=by simpa [QD]using h
    simp only[QD,z1,yq,xv]at hj⊢;obtain rfl:j=0:=by omega
    simp[Array.getD,h'];exact .it _ _
 ·split at h
  ·rename_i k es' hs;cases hc:(Nat.beq k sz||es'.isEmpty)with
   |false=>rw[hc]at h;cases h
   |true=>
    rw[hc]at h;obtain rfl:=za h;have hk:k=sz\/es'=[]:=by
     rcases(wj _ _).mp hc with h|h
     ·exact .inl (zh h)
     ·exact .inr (by simpa using h)
    have hd:=XV hs hu;have hsl:∃a len cap,u= .slice a len cap:=by cases hd<;>exact⟨_,_,_,rfl⟩
    obtain⟨a,len,cap,rfl⟩:=hsl;obtain⟨rfl,r⟩:=QC5 (P:=P) hd hk hw;exact⟨rfl,r⟩
  ·cases h
def Row(F:Nat->Nat->Option Value)(sz:Nat)(es:List (List D))(cs:Array Value):Prop:=
 (∀i (h:i<es.length),es[i].length=sz)/\∀i (h:i<es.length) j (hj:j<es[i].length),DR F es[i][j] (cs.getD (i*sz+j) undef)
theorem Row.append{ds:Array Value}(h:Row F sz es cs)(h':Row F sz es' ds)(hc:cs.size=es.length*sz)(hd:ds.size=es'.length*sz):Row F sz (es++es') (cs++ds):=by
 have bnd:∀ {l:List (List D)} {i j:Nat},i<l.length->j<sz->i*sz+j<l.length*sz:=fun{l i j} hi hj=>by
  have:(i+1)*sz<=l.length*sz:=zw _ (by omega);rw[z2]at this;omega
 have e1:∀(A:Array Value) (i:Nat) (h:i<A.size),A.getD i undef=A[i]:=λA i h=>by rw[Array.getD,dif_pos h];rfl
 refine⟨λi hi=>?_,λi hi j hj=>?_⟩
 ·by_cases h1:i<es.length
  ·rw [zx h1];exact h.1 i h1
  ·rw [yb (by omega)];exact h'.1 _ _
 ·simp only[zu]at hi;by_cases h1:i<es.length
  ·simp only[zx h1]at hj⊢;have hj':=h.1 i h1▸hj;have hb:=bnd h1 hj';rw[e1 _ _ (by simp;omega),wg (by omega),<-e1];exact h.2 i h1 j hj
  ·have h2:i-es.length<es'.length:=by omega
   simp only[yb (Nat.le_of_not_lt h1)]at hj⊢;have hj':=h'.1 _ h2▸hj;have hb:=bnd h2 hj';have hi2:i*sz=es.length*sz+(i-es.length)*sz:=by rw[<-z2];congr 1;omega
   rw[e1 _ _ (by simp;omega),ki (by omega)];have:i*sz+j-cs.size=(i-es.length)*sz+j:=by omega
   simp only[this];rw[<-e1];exact h'.2 _ h2 j hj
theorem Row.mono{F':Nat->Nat->Option Value}(hF:∀b o v,F b o=some v->F' b o=some v)(h:Row F sz es cs):Row F' sz es cs:=
 ⟨h.1,λi hi j hj=>(h.2 i hi j hj).mono hF⟩
theorem Row.dr{b:Nat}(h:Row F sz es cs)(hF:∀o,o<es.length*sz->F b (off+o)=some (cs.getD o undef))(hc:es.length<=cap):DR F (.fs sz es) (.slice (some ⟨b,off,none⟩) es.length cap):=by
 refine .fs _ _ _ _ _ _ (λi j=>cs.getD (i*sz+j) undef) rfl hc h.1 (λi j hi hj=>?_) h.2;rw[wl];refine hF _ ?_;have:(i+1)*sz<=es.length*sz:=zw _ (by omega);rw[z2]at this;omega
def Gh.fresh(g:Gh)(m B n cp:Nat)(arr:Array Value):Gh where
 F:=λb o=>if b=B then(if o<n then some (arr.getD o undef)else none)else g.F b o
 blk:=λk=>if k=m then B else g.blk k
 hi:=λk=>if k=m then n else g.hi k
 cp:=λk=>if k=m then cp else g.cp k
 has:=λk=>if k=m then true else g.has k
variable {tb b fl:Bool}
theorem Inv.fresh{T:TypeId}{cp:Nat}(hi:Inv κ g mem w)(hmem:∀k ob,look k mem=some ob->k<M/\ob.lt M=true)(hw:w'.heap=w.heap.push (.cells arr T (0,0)))(h1:w'.os=w.os)(h2:w'.tape=w.tape)(h3:w'.output=w.output)
 (hn:n<=cp) (hcp:cp<=arr.size):JU m M g (g.fresh m w.heap.size n cp arr)/\Inv κ (g.fresh m w.heap.size n cp arr) ((m,.tail T tb)::ZJ m mem) w':=by
 have hold:∀b o v,g.F b o=some v->b<w.heap.size:=λb o v h=>u0 w ⟨b,o,none⟩ (hi.frz b o v h);have hF:∀b o v,g.F b o=some v->(g.fresh m w.heap.size n cp arr).F b o=some v:=λb o v h=>by
  show(if b=w.heap.size then _ else _)=_;rw[if_neg (by have:=hold _ _ _ h;omega)];exact h
 have he:JU m M g (g.fresh m w.heap.size n cp arr):=⟨hF,λk _ hk=>if_neg hk,λk _ hk=>if_neg hk,λk _ hk=>if_neg hk,λk _ hk=>if_neg hk⟩;refine⟨he,?_⟩;generalize hg':g.fresh m w.heap.size n cp arr=g' at he;have gF:∀b o,g'.F b o=if b=w.heap.size then(if o<n then some (arr.getD o undef)else none)else g.F b o:=λb o=>by rw[<-hg'];rfl
 have gb:∀k,g'.blk k=if k=m then w.heap.size else g.blk k:=λk=>by rw[<-hg'];rfl
 have gh:∀k,g'.has k=if k=m then true else g.has k:=λk=>by rw[<-hg'];rfl
 have gi:∀k,g'.hi k=if k=m then n else g.hi k:=λk=>by rw[<-hg'];rfl
 have gc:∀k,g'.cp k=if k=m then cp else g.cp k:=λk=>by rw[<-hg'];rfl
 have hlook:∀k,look k ((m,Ob.tail T tb)::ZJ m mem)=if k=m then some (.tail T tb)else(look k mem).map (Ob.down m):=λk=>by rw[QC,X6]
 have on:∀k,k≠m->On g' ((m,.tail T tb)::ZJ m mem) k->On g mem k:=λk hk h=>by
  unfold On at h⊢;rw[hlook,if_neg hk]at h;cases hl:look k mem with
  |none=>rw[hl]at h;exact h
  |some ob=>
   rw[hl]at h;cases ob with
   |cells=>trivial
   |tail=>
    have h':g'.has k=true:=h;rw[gh,if_neg hk]at h';exact h'
   |vec=>
    have h':g'.has k=true:=h;rw[gh,if_neg hk]at h';exact h'
   |tag m' t'=>simp only[Option.map,Ob.down]at h;cases hb:Nat.beq m' m<;>rw[hb]at h<;>exact h
   |frame=>exact h
   |loop=>trivial
   |mp=>
    have h':g'.has k=true:=h;rw[gh,if_neg hk]at h';exact h'
 have heap:∀b,b<w.heap.size->w'.heap[b]? =w.heap[b]? :=λb hb=>by rw[hw,xw,if_neg (by omega)]
 have blt:∀k,On g mem k->g.blk k<w.heap.size:=λk h=>by
  unfold On at h;cases hl:look k mem with
  |none=>rw[hl]at h;exact h.elim
  |some ob=>
   have hob:=hi.obs k ob hl;have lt_of:∀ {x:Obj},w.heap[g.blk k]? =some x->g.blk k<w.heap.size:=λh=>by
    rcases yj (g.blk k) w.heap.size with h'|h'
    ·exact h'
    ·rw [xh h']at h;cases h
   cases ob with
   |cells=>obtain⟨a',T',e1,_⟩:=hob;exact lt_of e1
   |tail=>
    rw[hl]at h;obtain⟨a',T',e1,_⟩:=hob.1 h;exact lt_of e1
   |vec=>
    rw[hl]at h;obtain⟨a',e1,_⟩:=hob.2.2 h;exact lt_of e1
   |tag=>rw[hl]at h;exact h.elim
   |frame=>rw[hl]at h;exact h.elim
   |loop=>obtain⟨_,fn,D,e⟩:=hob;exact lt_of e
   |mp=>
    rw[hl]at h;obtain⟨a',e1,_⟩:=hob.2.2 h;exact lt_of e1
 refine⟨λb o v h=>?_,λk ob hk=>?_,λk k' hkk h h'=>?_,by rw[hw];simp;have:=hi.size;omega,λb hb hm=>by rw[heap b (by have:=hi.size;omega)];exact hi.pres b hb hm,λk h=>?_,λb o v h=>he.F _ _ _ (hi.f0 _ _ _ h),λb o v h=>?_,h1.trans hi.os,h2.trans hi.tape,h3.trans hi.output,λD hD=>by rw[heap D (un.1 (hi.dfr D hD)).1];exact hi.dfr D hD⟩
 ·rw [gF]at h;by_cases hb:b=w.heap.size
  ·rw [if_pos hb]at h;by_cases ho:o<n
   ·rw [if_pos ho]at h;obtain rfl:=za h;subst hb;simp[World.cell?,hw,Array.getD,show o<arr.size by omega]
   ·rw [if_neg ho]at h;cases h
  ·rw [if_neg hb]at h;have hc:=hi.frz _ _ _ h;simp only[World.cell?]at hc⊢;rw[heap _ (hold _ _ _ h)];exact hc
 ·rw [hlook]at hk;by_cases hkm:k=m
  ·subst hkm;rw[if_pos rfl]at hk;obtain rfl:=za hk;refine⟨λ_=>?_,λ_ hh=>by rw[gh,if_pos rfl]at hh;cases hh⟩;refine⟨arr,(),by rw[gb,if_pos rfl,hw];simp,by rw[gc,if_pos rfl];exact hcp,by rw[gi,gc,if_pos rfl,if_pos rfl];exact hn,λo ho=>?_⟩;rw[gi,if_pos rfl]at ho;rw[gF,gb,if_pos rfl,if_pos rfl,if_neg (by omega)]
  ·rw [if_neg hkm]at hk;cases hl:look k mem with
   |none=>rw[hl]at hk;cases hk
   |some ob0=>
    rw[hl]at hk;obtain rfl:=za hk;obtain⟨hkM,hlt⟩:=hmem k ob0 hl;have hob:=hi.obs k ob0 hl;cases ob0 with
    |cells size c=>
     have hb:=blt k (by unfold On;rw[hl];trivial);obtain⟨arr',T',e1,e2,e3,e4,e5,e6⟩:=hob;simp only[Ob.lt,ze]at hlt;refine⟨arr',T',by rw[he.blk k hkM hkm,heap _ hb];exact e1,e2,by simpa using e3,λj hj=>?_,λj hj=>?_,λo=>?_⟩
     ·simp only[zb]at hj;simp only[z1,Jk];exact e4 j hj
     ·simp only[zb]at hj;simp only[z1];exact(e5 j hj).dn1 he (hlt _ (zm hj))
     ·rw [gF,he.blk k hkM hkm,if_neg (by omega)];exact e6 o
    |tag k' t'=>
     obtain⟨arr',fz,e⟩:=hob;simp only[Ob.lt,yc]at hlt;simp only[Ob.down];by_cases hkm':k'=m
     ·subst hkm';rw[wc];exact⟨(λ_ h=>by cases h),(λ_ _ h=>by cases h)⟩
     ·rw [Qy hkm'];have hlt':g.blk k'<w.heap.size:=by
       rcases yj (g.blk k') w.heap.size with h'|h'
       ·exact h'
       ·rw [xh h']at e;cases e
      exact⟨arr',fz,by rw[he.blk k' hlt hkm',heap _ hlt'];exact e⟩
    |vec t' sz' es' f'=>exact ZM.mono hob he.F (he.blk k hkM hkm) (he.hi k hkM hkm) (he.cp k hkM hkm) (he.has k hkM hkm) (λhh=>heap _ (blt k (by unfold On;rw[hl];exact hh))) (λhh o ho=>by have hb:=blt k (by unfold On;rw[hl];exact hh);rw[gF,if_neg (by omega)];exact ho)
    |tail=>
     refine⟨λhh=>?_,λhb hh=>by rw[he.hi k hkM hkm];exact hob.2 hb ((he.has k hkM hkm).symm.trans hh)⟩;have hh':g'.has k=true:=hh;rw[he.has k hkM hkm]at hh';have hb:=blt k (by unfold On;rw[hl];exact hh');obtain⟨arr',T',e1,e2,e3,e4⟩:=hob.1 hh';refine⟨arr',T',by rw[he.blk k hkM hkm,heap _ hb];exact e1,by rw[he.cp k hkM hkm];exact e2,by rw[he.cp k hkM hkm,he.hi k hkM hkm];exact e3,λo ho=>?_⟩;rw[he.hi k hkM hkm]at ho;rw[gF,he.blk k hkM hkm,if_neg (by omega)];exact e4 o ho
    |frame sz l=>
     simp only[Ob.lt,ze]at hlt;refine⟨hob.1,?_⟩;intro s v hs;rw[X5]at hs;cases hl':look s l with
     |none=>rw[hl']at hs;cases hs
     |some y=>
      rw[hl']at hs;obtain rfl:=za hs;exact(hob.2 s y hl').dn he (hlt _ (Qb hl'))
    |loop k' ps asg body st pd=>
     have hb:=blt k (by unfold On;rw[hl];trivial);obtain⟨eb,fn,D,e⟩:=hob;exact⟨(he.blk k hkM hkm).trans eb,fn,D,by rw[he.blk k hkM hkm,heap _ hb];exact e⟩
    |mp b ag tp l=>exact ZQ.mono hob he.F (he.blk k hkM hkm) (he.hi k hkM hkm) (he.cp k hkM hkm) (he.has k hkM hkm) (λhh=>heap _ (blt k (by unfold On;rw[hl];exact hh))) (λhh o ho=>by have hb:=blt k (by unfold On;rw[hl];exact hh);rw[gF,if_neg (by omega)];exact ho)
 ·by_cases hk:k=m
  ·subst hk;have:=blt k' (on k' (vb hkk) h');rw[gb,gb,if_pos rfl,if_neg (vb hkk)];omega
  ·by_cases hk':k'=m
   ·subst hk';have:=blt k (on k hk h);rw[gb,gb,if_pos rfl,if_neg hk];omega
   ·rw [gb,gb,if_neg hk,if_neg hk'];exact hi.inj k k' hkk (on k hk h) (on k' hk' h')
 ·by_cases hk:k=m
  ·subst hk;rw[gb,if_pos rfl];exact .inl hi.size
  ·rw [gb,if_neg hk];exact hi.own k (on k hk h)
 ·rw [gF]at h;by_cases hb:b=w.heap.size
  ·subst hb;exact .inr (.inl hi.size)
  ·rw [if_neg hb]at h;exact hi.fnew _ _ _ h
def Gh.onto(g:Gh)(m k:Nat)(news:Array Value):Gh:=
 {g with
  F:=λb o=>if b=g.blk m/\g.hi m<=o/\o<g.hi m+k then some (news.getD (o-g.hi m) undef)else g.F b o
  hi:=λn=>if n=m then g.hi m+k else g.hi n}
theorem QDe(A:Array Value){o:Nat}(h:o<A.size):A[o]? =some (A.getD o undef):=by
 simp[Array.getD,h]
theorem Inv.unhas{tt:Nat}(hi:Inv κ g mem w)(hmem:∀k ob,look k mem=some ob->k<M/\ob.lt M=true):
  JU m M g {g with has:=λn=>if n=m then false else g.has n,hi:=λn=>if n=m then(if tb=true then 0 else 1)else g.hi n}/\Inv κ {g with has:=λn=>if n=m then false else g.has n,hi:=λn=>if n=m then(if tb=true then 0 else 1)else g.hi n} ((m,.tail tt tb)::ZJ m mem) w:=by
 have he:JU m M g {g with has:=λn=>if n=m then false else g.has n,hi:=λn=>if n=m then(if tb=true then 0 else 1)else g.hi n}:=⟨λ_ _ _ h=>h,λ_ _ _=>rfl,λ_ _ h=>if_neg h,λ_ _ _=>rfl,λ_ _ h=>if_neg h⟩;refine⟨he,?_⟩;have hlook:∀k,look k ((m,Ob.tail tt tb)::ZJ m mem)=if k=m then some (.tail tt tb)else(look k mem).map (Ob.down m):=λk=>by rw[QC,X6]
 have on:∀k,On {g with has:=λn=>if n=m then false else g.has n,hi:=λn=>if n=m then(if tb=true then 0 else 1)else g.hi n} ((m,.tail tt tb)::ZJ m mem) k->On g mem k:=λk h=>by
  unfold On at h⊢;by_cases hk:k=m
  ·subst hk;rw[hlook,if_pos rfl]at h;have h':(if k=k then false else g.has k)=true:=h;rw[if_pos rfl]at h';cases h'
  ·rw [hlook,if_neg hk]at h;cases hl:look k mem with
   |none=>rw[hl]at h;exact h
   |some ob=>
    rw[hl]at h;cases ob with
    |cells=>trivial
    |tail=>
     have h':(if k=m then false else g.has k)=true:=h;rw[if_neg hk]at h';exact h'
    |vec=>
     have h':(if k=m then false else g.has k)=true:=h;rw[if_neg hk]at h';exact h'
    |tag m' t'=>simp only[Option.map,Ob.down]at h;cases hb:Nat.beq m' m<;>rw[hb]at h<;>exact h
    |frame=>exact h
    |loop=>trivial
    |mp=>
     have h':(if k=m then false else g.has k)=true:=h;rw[if_neg hk]at h';exact h'
 refine⟨hi.frz,λn ob hn=>?_,λn n' hnn h h'=>hi.inj n n' hnn (on n h) (on n' h'),hi.size,hi.pres,λn h=>hi.own n (on n h),hi.f0,hi.fnew,hi.os,hi.tape,hi.output,hi.dfr⟩;rw[hlook]at hn;by_cases hnm:n=m
 ·subst hnm;rw[if_pos rfl]at hn;obtain rfl:=za hn;refine⟨λh=>?_,λhb _=>?_⟩
  ·have h':(if n=n then false else g.has n)=true:=h;rw[if_pos rfl]at h';cases h'
  ·show (if n=n then(if tb=true then 0 else 1)else g.hi n)=0;rw[if_pos rfl,if_pos hb]
 ·rw [if_neg hnm]at hn;cases hl:look n mem with
  |none=>rw[hl]at hn;cases hn
  |some ob0=>
   rw[hl]at hn;obtain rfl:=za hn;obtain⟨hnM,hlt⟩:=hmem n ob0 hl;have hob:=hi.obs n ob0 hl;cases ob0 with
   |cells size c=>
    obtain⟨arr',T',e1,e2,e3,e4,e5,e6⟩:=hob;simp only[Ob.lt,ze]at hlt;refine⟨arr',T',e1,e2,by simpa using e3,λj hj=>?_,λj hj=>?_,e6⟩
    ·simp only[zb]at hj;simp only[z1,Jk];exact e4 j hj
    ·simp only[zb]at hj;simp only[z1];exact(e5 j hj).dn1 he (hlt _ (zm hj))
   |tag m' t'=>
    simp only[Ob.down];cases hb:Nat.beq m' m with
    |true=>exact⟨(λ_ h=>by cases h),(λ_ _ h=>by cases h)⟩
    |false=>exact hob
   |vec t' sz' es' f'=>exact ZM.mono hob (λ_ _ _ h=>h) rfl (if_neg hnm) rfl (if_neg hnm) (λ_=>rfl) (λ_ _ h=>h)
   |tail=>
    obtain⟨q1,q2⟩:=hob;refine⟨λhh=>?_,λhb hh=>?_⟩
    ·have hh':(if n=m then false else g.has n)=true:=hh;rw[if_neg hnm]at hh';obtain⟨arr',u',e1,e2,e3,e4⟩:=q1 hh';have eh:(if n=m then(if tb=true then 0 else 1)else g.hi n)=g.hi n:=if_neg hnm;exact⟨arr',u',e1,e2,by show(if n=m then(if tb=true then 0 else 1)else g.hi n)<=_;rw[eh];exact e3,λo ho=>e4 o (by have:(if n=m then(if tb=true then 0 else 1)else g.hi n)<=o:=ho;rw[eh]at this;exact this)⟩
    ·have hh':(if n=m then false else g.has n)=false:=hh;rw[if_neg hnm]at hh';show(if n=m then(if tb=true then 0 else 1)else g.hi n)=0;rw[if_neg hnm];exact q2 hb hh'
   |frame sz l=>
    simp only[Ob.lt,ze]at hlt;refine⟨hob.1,?_⟩;intro s v hs;rw[X5]at hs;cases hl':look s l with
    |none=>rw[hl']at hs;cases hs
    |some y=>
     rw[hl']at hs;obtain rfl:=za hs;exact(hob.2 s y hl').dn he (hlt _ (Qb hl'))
   |loop k' ps asg body st pd=>exact hob
   |mp b ag tp l=>exact ZQ.mono hob (λ_ _ _ h=>h) rfl (if_neg hnm) rfl (if_neg hnm) (λ_=>rfl) (λ_ _ h=>h)
theorem Inv.onto{T:TypeId}{tt:Nat}{tc:Bool}(hi:Inv κ g mem w)(hmem:∀k ob,look k mem=some ob->k<M/\ob.lt M=true)(hm:look m mem=some (.tail tt tb))(hh:g.has m=true)
  (hw:w.heap[g.blk m]? =some (.cells arr T (0,0))) (hk:news.size=k) (hfit:g.hi m+k<=g.cp m):
  JU m M g (g.onto m k news)/\Inv κ (g.onto m k news) ((m,.tail T tc)::ZJ m mem) (w.setRow (g.blk m) (arr.toList.take (g.hi m)++news.toList++arr.toList.drop (g.hi m+news.size)).toArray):=by
 obtain⟨_,_,f1,f2,f3,f4⟩:=(hi.obs m _ hm).1 hh;rw[hw]at f1;obtain⟨rfl,rfl⟩:arr=_/\T=_:=by simp only[yo,Obj.cells.injEq]at f1;exact⟨f1.1,f1.2.1⟩
 have hon:On g mem m:=by unfold On;rw[hm];exact hh
 have hF:∀b o v,g.F b o=some v->(g.onto m k news).F b o=some v:=λb o v h=>by
  show(if b=g.blk m/\g.hi m<=o/\o<g.hi m+k then _ else _)=_;rw[if_neg (by rintro⟨rfl,h1,_⟩;rw[f4 o h1]at h;cases h)];exact h
 have he:JU m M g (g.onto m k news):=⟨hF,λ_ _ _=>rfl,λk _ hk=>if_neg hk,λ_ _ _=>rfl,λ_ _ _=>rfl⟩;refine⟨he,?_⟩;generalize hg':g.onto m k news=g' at he;have gF:∀b o,g'.F b o=if b=g.blk m/\g.hi m<=o/\o<g.hi m+k then some (news.getD (o-g.hi m) undef)else g.F b o:=λb o=>by rw[<-hg'];rfl
 have gb:∀k,g'.blk k=g.blk k:=λk=>by rw[<-hg'];rfl
 have gh:∀k,g'.has k=g.has k:=λk=>by rw[<-hg'];rfl
 have gc:∀k,g'.cp k=g.cp k:=λk=>by rw[<-hg'];rfl
 have gi:∀n,g'.hi n=if n=m then g.hi m+k else g.hi n:=λn=>by rw[<-hg'];rfl
 have hlook:∀k,look k ((m,Ob.tail T tc)::ZJ m mem)=if k=m then some (.tail T tc)else(look k mem).map (Ob.down m):=λk=>by rw[QC,X6]
 have on:∀k,On g' ((m,.tail T tc)::ZJ m mem) k->On g mem k:=λk h=>by
  by_cases hk:k=m
  ·subst hk;exact hon
  ·unfold On at h⊢;rw[hlook,if_neg hk]at h;cases hl:look k mem with
   |none=>rw[hl]at h;exact h
   |some ob=>
    rw[hl]at h;cases ob with
    |cells=>trivial
    |tail=>
     have h':g'.has k=true:=h;rw[gh]at h';exact h'
    |vec=>
     have h':g'.has k=true:=h;rw[gh]at h';exact h'
    |tag m' t'=>simp only[Option.map,Ob.down]at h;cases hb:Nat.beq m' m<;>rw[hb]at h<;>exact h
    |frame=>exact h
    |loop=>trivial
    |mp=>
     have h':g'.has k=true:=h;rw[gh]at h';exact h'
 have other:∀k,k≠m->On g mem k->g.blk k≠g.blk m:=λk hk h=>hi.inj k m hk h hon;refine⟨λb o v h=>?_,λn ob hn=>?_,λn n' hnn h h'=>?_,by rw[setRow_size];exact hi.size,λb hb hmod=>?_,λn h=>by rw[gb];exact hi.own n (on n h),λb o v h=>he.F _ _ _ (hi.f0 _ _ _ h),λb o v h=>?_,hi.os,hi.tape,hi.output,λD hD=>by rw[setRow_other _ _ _ _ (λe=>by have:=hi.dfr D hD;rw[e,hw]at this;cases this)];exact hi.dfr D hD⟩
 ·rw [gF]at h;by_cases hc:b=g.blk m/\g.hi m<=o/\o<g.hi m+k
  ·rw [if_pos hc]at h;obtain rfl:=za h;obtain⟨rfl,h1,h2⟩:=hc;rw[cell_setRow_same _ _ _ _ _ _ _ hw];have:=ZC arr news (g.hi m) o (by omega) (by omega);rw[if_pos (by omega)]at this;rw[<-this];exact QDe _ (by simp;omega)
  ·rw [if_neg hc]at h;have hcell:=hi.frz b o v h;by_cases hb:b=g.blk m
   ·subst hb;have ho:o<g.hi m:=by
     rcases yj o (g.hi m)with h'|h'
     ·exact h'
     ·rw [f4 o h']at h;cases h
    rw[cell_setRow_same _ _ _ _ _ _ _ hw];simp only[World.cell?,hw]at hcell;have hoa:o<arr.size:=by omega
    have:=ZC arr news (g.hi m) o (by omega) hoa;rw[if_neg (by omega)]at this;have e2:v=arr.getD o undef:=by
     simp[hoa]at hcell;simp[Array.getD,hoa,hcell]
    rw[e2,<-this];exact QDe _ (by simp;omega)
   ·rw [cell_setRow_other _ _ _ _ hb];exact hcell
 ·rw [hlook]at hn;by_cases hnm:n=m
  ·subst hnm;rw[if_pos rfl]at hn;obtain rfl:=za hn;refine⟨λ_=>?_,λ_ hh'=>by rw[gh,hh]at hh';cases hh'⟩;refine⟨_,(),by rw[gb];exact setRow_heap w _ _ _ _ _ hw,by rw[gc];simp;omega,by rw[gi,gc,if_pos rfl];exact hfit,λo ho=>?_⟩;rw[gi,if_pos rfl]at ho;rw[gF,gb,if_neg (by omega)];exact f4 o (by omega)
  ·rw [if_neg hnm]at hn;cases hl:look n mem with
   |none=>rw[hl]at hn;cases hn
   |some ob0=>
    rw[hl]at hn;obtain rfl:=za hn;obtain⟨hnM,hlt⟩:=hmem n ob0 hl;have hob:=hi.obs n ob0 hl;cases ob0 with
    |cells size c=>
     have hne:=other n hnm (by unfold On;rw[hl];trivial);obtain⟨arr',T',e1,e2,e3,e4,e5,e6⟩:=hob;simp only[Ob.lt,ze]at hlt;refine⟨arr',T',by rw[gb,setRow_other _ _ _ _ hne];exact e1,e2,by simpa using e3,λj hj=>?_,λj hj=>?_,λo=>?_⟩
     ·simp only[zb]at hj;simp only[z1,Jk];exact e4 j hj
     ·simp only[zb]at hj;simp only[z1];exact(e5 j hj).dn1 he (hlt _ (zm hj))
     ·rw [gF,gb,if_neg (by omega)];exact e6 o
    |tag m' t'=>
     obtain⟨arr',fz,e⟩:=hob;simp only[Ob.down];cases hb:Nat.beq m' m with
     |true=>exact⟨(λ_ h=>by cases h),(λ_ _ h=>by cases h)⟩
     |false=>
      by_cases hbb:g.blk m'=g.blk m
      ·rw [hbb,hw]at e;cases e;exact⟨_,_,by rw[gb,hbb];exact setRow_heap w _ _ _ _ _ hw⟩
      ·exact ⟨arr',fz,by rw[gb,setRow_other _ _ _ _ hbb];exact e⟩
    |vec t' sz' es' f'=>exact ZM.mono hob he.F (gb n) (by rw[gi,if_neg hnm]) (gc n) (gh n) (λhh=>by rw[setRow_other _ _ _ _ (other n hnm (by unfold On;rw[hl];exact hh))]) (λhh o ho=>by have hne:=other n hnm (by unfold On;rw[hl];exact hh);rw[gF,if_neg (λhc=>hne hc.1)];exact ho)
    |tail=>
     refine⟨λhh2=>?_,λhb hh2=>by rw[gi,if_neg hnm];exact hob.2 hb ((gh n).symm.trans hh2)⟩;have hh':g'.has n=true:=hh2;rw[gh]at hh';have hne:=other n hnm (by unfold On;rw[hl];exact hh');obtain⟨arr',T',e1,e2,e3,e4⟩:=hob.1 hh';refine⟨arr',T',by rw[gb,setRow_other _ _ _ _ hne];exact e1,by rw[gc];exact e2,by rw[gc,gi,if_neg hnm];exact e3,λo ho=>?_⟩;rw[gi,if_neg hnm]at ho;rw[gF,gb,if_neg (by omega)];exact e4 o ho
    |frame sz l=>
     simp only[Ob.lt,ze]at hlt;refine⟨hob.1,?_⟩;intro s v hs;rw[X5]at hs;cases hl':look s l with
     |none=>rw[hl']at hs;cases hs
     |some y=>
      rw[hl']at hs;obtain rfl:=za hs;exact(hob.2 s y hl').dn he (hlt _ (Qb hl'))
    |loop k' ps asg body st pd=>
     have hne:=other n hnm (by unfold On;rw[hl];trivial);obtain⟨eb,fn,D,e⟩:=hob;exact⟨(gb n).trans eb,fn,D,by rw[gb,setRow_other _ _ _ _ hne];exact e⟩
    |mp b ag tp l=>exact ZQ.mono hob he.F (gb n) (by rw[gi,if_neg hnm]) (gc n) (gh n) (λhh=>by rw[setRow_other _ _ _ _ (other n hnm (by unfold On;rw[hl];exact hh))]) (λhh o ho=>by have hne:=other n hnm (by unfold On;rw[hl];exact hh);rw[gF,if_neg (λhc=>hne hc.1)];exact ho)
 ·rw [gb,gb];exact hi.inj n n' hnn (on n h) (on n' h')
 ·have hne:b≠g.blk m:=by
   rintro rfl;rcases hi.own m hon with h|h
   ·omega
   ·exact hmod h
  rw[setRow_other _ _ _ _ hne];exact hi.pres b hb hmod
 ·rw [gF]at h;by_cases hc:b=g.blk m/\g.hi m<=o/\o<g.hi m+k
  ·obtain ⟨rfl,_,_⟩:=hc;rcases hi.own m hon with h'|h'
   ·exact .inr (.inl h')
   ·exact .inr (.inr h')
  ·rw [if_neg hc]at h;exact hi.fnew _ _ _ h
section
variable {P:Program} {ti:Nat->Option Ty} {N:Nat} {o:Oper} {σ:S} {K:S->Prop}
theorem QAs{ats:Array TypeId}(hti:QU P ti)(h:X3 ti ats=some ety):∃e u i,QCY P e ety u i/\QOJ P ats e i/\Q2 ti ats=e:=by
 unfold X3 at h;split at h
 case h_2=>cases h
 rename_i t t' h0 h1;split at h
 ·rename_i e _ _ _ _ _ e' _ _ _ _ _ ht ht';obtain⟨u,i,k1⟩:=QE (hti _ _ ht);obtain⟨u',i',k2⟩:=QE (hti _ _ ht');obtain⟨u'',i'',k3⟩:=QE (hti _ _ h);obtain rfl:=Q3 k1 rfl;obtain rfl:=Q3 k2 rfl;exact⟨e,u'',i'',k3,⟨⟨t,t',_,h0,h1,k1.und,k2.und,λk hk=>by cases hk⟩,k3.info⟩,by simp[Q2,QOF,h0,ht]⟩
 ·rename_i e _ _ _ _ _ _ _ _ _ _ ht ht';obtain⟨u,i,k1⟩:=QE (hti _ _ ht);obtain⟨u',i',k2⟩:=QE (hti _ _ ht');obtain⟨u'',i'',k3⟩:=QE (hti _ _ h);obtain rfl:=Q3 k1 rfl;obtain rfl:=Z3 k2 rfl;exact⟨e,u'',i'',k3,⟨⟨t,t',_,h0,h1,k1.und,k2.und,λk hk=>by cases hk⟩,k3.info⟩,by simp[Q2,QOF,h0,ht]⟩
 ·cases h
theorem St.putX(h:St κ N g σ a w)(hd:d<N)(hM:σ.nx<=M)(he:JU m M g g')(hi:Inv κ g' mem w')(hv:AVR g' v u)(hlt:v.lt M=true)(hmem:∀p∈mem,p.1<M/\p.2.lt M=true):
  St κ N g' ⟨(d,v)::XJ m σ.sl,mem,M⟩ (a.put (some d) u) w':=by
 have hok:∀p∈σ.sl,p.2.lt M=true:=λp hp=>AV.lt_mono ((S.ok_iff.1 h.ok).1 p hp) hM;refine⟨by simp[Zm,h.size],by rw[put_defers];exact h.defers,λk x hk=>?_,hi,?_⟩
 ·rw [Zm,YN _ _ _ _ (by rw[h.size];exact hd)];rw[QC]at hk;by_cases hkd:k=d
  ·rw [if_pos hkd]at hk⊢;obtain rfl:=za hk;exact hv
  ·rw [if_neg hkd]at hk⊢;rw[X5]at hk;cases hl:look k σ.sl with
   |none=>rw[hl]at hk;cases hk
   |some y=>
    rw[hl]at hk;obtain rfl:=za hk;exact(h.sl k y hl).dn he (hok _ (Qb hl))
 ·rw [S.ok_iff];refine⟨λp hp=>?_,hmem⟩;rcases zi.1 hp with rfl|hp
  ·exact hlt
  ·obtain ⟨q,hq,rfl⟩:=QAp hp;exact QIO (hok q hq)
def QVQ(g:Gh)(mem:List (Nat×Ob))(tb:Bool)(tt m sz:Nat)(es:List (List D))(u:Value):Prop:=
 ∃a cap,u= .slice a es.length cap/\(∃k,DR g.F (.fs k es) u/\(k=sz\/es=[]))/\
  ((cap=es.length/\(tb=true->es=[]/\a=none))\/((∃tb',look m mem=some (.tail tt tb'))/\g.has m=true/\0<es.length/\es.length<=cap/\∃off,a=some ⟨g.blk m,off,none⟩/\off+es.length*sz=g.hi m/\off+cap*sz=g.cp m))
theorem YO{ats:Array TypeId}(hti:QU P ti)(hop:o.op= .call ⟨.builtin .append,#[x,y],ats⟩)(hd:o.dst=some d)(hdN:d<N)(he:X3 ti ats=some ety)(hb:ety.bytes<=65536)(h0:0<ety.size)(hz:ety.zero.length=ety.size)
  (ht:∀(κ:Ctx) (g:Gh) (a:Act) (w:World),St κ N g σ a w->X7 P g w ety.size es' (a.eval y)) (hM:σ.nx<=M) (hm:m<M) (hbase:∀(κ:Ctx) (g:Gh) (a:Act) (w:World),St κ N g σ a w->QVQ g σ.mem tb (Q2 ti ats) m ety.size es (a.eval x)) (hlen:es.length+es'.length<=1073741824)
  (hK:K ⟨(d,.ts ety.size (es++es') m)::XJ m σ.sl,(m,.tail (Q2 ti ats) tb)::ZJ m σ.mem,M⟩):Zz P N o σ K:=by
 obtain⟨e,ue,ie,het,happ,hid⟩:=QAs hti he;intro κ g A w hst next Q hn
 have hmem:∀k ob,look k σ.mem=some ob->k<M/\ob.lt M=true:=λk ob h=>by
  have:=S.ok_mem hst.ok h;exact⟨by omega,Ob.lt_mono this.2 hM⟩
 have hmem':∀p∈(m,Ob.tail (Q2 ti ats) tb)::ZJ m σ.mem,p.1<M/\p.2.lt M=true:=λp hp=>by
  rcases zi.1 hp with rfl|hp
  ·exact ⟨hm,rfl⟩
  ·obtain ⟨q,hq,rfl⟩:=QAq hp;have:=S.ok_memAll hst.ok q hq;refine⟨by show q.1<M;omega,?_⟩;have hl:=Ob.lt_mono this.2 hM;cases hq2:q.2 with
   |cells size c=>
    rw[hq2]at hl;simp only[Ob.lt,Ob.down,ze,yf]at hl⊢;exact λx ⟨z,hz,e⟩=>e▸QBT (hl z hz)
   |tail=>rfl
   |vec=>rfl
   |tag m' t'=>
    rw[hq2]at hl;simp only[Ob.down];cases Nat.beq m' m<;>first|rfl|exact hl
   |frame sz l=>
    rw[hq2]at hl;simp only[Ob.lt,Ob.down,ze]at hl⊢;intro x hx;obtain⟨z,hz,rfl⟩:=QAp hx;exact QIO (hl z hz)
   |loop k ps asg body st pd=>rw[hq2]at hl;exact hl
   |mp=>rfl
 obtain⟨a,cap,hu,⟨k,hdr,hk⟩,hcase⟩:=hbase κ g A w hst;rw[hu]at hdr;obtain⟨t1,news,t2,t3,t4⟩:=ht κ g A w hst;obtain⟨_,olds,s2,s3,s4⟩:=QC5 (P:=P) (sz:=ety.size) hdr hk hst.inv.frz;have hexec:∃cs,execOp A.eval o=builtin .append ats o.type cs #[.slice a es.length cap,A.eval y]:=by
  have:=QQ hop A;simp only[uo,w8,uw,hu]at this;exact⟨_,this⟩
 obtain⟨cs,hexec⟩:=hexec;have hts:(AV.ts ety.size (es++es') m).lt M=true:=by simp[AV.lt,AV.lt2,AV.lt1,AV.lt0,hm]
 have hds:DR g.F (.fs ety.size es) (.slice a es.length cap):=by
  rcases hk with rfl|rfl
  ·exact hdr
  ·exact .fs0 _ _ _
 have hwp:∀ {u:Value} {w':World},(Builtin.append_ ats o.type #[.slice a es.length cap,A.eval y]).run P w= .ok u w'->(execOp A.eval o).run P w= .ok (.value u) w':=λh=>by
  rw[hexec];simp only[builtin,zp,h,zg,zq]
 have hfin:∀ {g':Gh} {u:Value} {w':World},(execOp A.eval o).run P w= .ok (.value u) w'->JU m M g g'->Inv κ g' ((m,.tail (Q2 ti ats) tb)::ZJ m σ.mem) w'->AVR g' (.ts ety.size (es++es') m) u->o.wpIn (wd κ.rd) 0 P A w next Q:=λh1 h2 h3 h4=>
  Qc h1 (hn _ _ _ _ hK (by rw[hd];exact hst.putX hdN hM h2 h3 h4 hts hmem'))
 have hnew:cap<es.length+es'.length->o.wpIn (wd κ.rd) 0 P A w next Q:=λhgt=>by
  obtain⟨z,hzv,hLR,hLA⟩:=Zl (g:=g) (z:=ie.zero) (h:=slH P 6 e) (by rw[het.zero];omega);rw[het.zero]at hLR hLA;obtain⟨c2,rest,r1,r2,r3⟩:=QAU (P:=P) happ o.type (base:=a) (olds:=olds) (zv:= #[]) t1 (λw' h=>by rw[het.size];exact t2 w' h) (λw' h=>by rw[het.size];exact s2 w' h) hgt (by omega) (by rw[het.bytes];exact hb) hzv;have hrest:rest.size=(c2-(es.length+es'.length))*ety.size:=by
   rw[r2];simp[Builtin.zeroCells,<-hLR.1,hz]
  have hsz:(olds++news++rest).size=c2*ety.size:=by
   simp only[x9,s3,t3,hrest,<-z2];congr 1;omega
  obtain⟨x1,x2⟩:=hst.inv.fresh (m:=m) (M:=M) (n:=(es.length+es'.length)*ety.size) (cp:=c2*ety.size) (arr:=olds++news++rest) (T:=e) (w':=w.drew.alloc (.cells (olds++news++rest) e)) hmem rfl rfl rfl rfl (zw _ r1) (by omega);refine hfin (hwp r3) x1 (by rw[hid];exact x2) ?_;have hrow:Row (g.fresh m w.heap.size ((es.length+es'.length)*ety.size) (c2*ety.size) (olds++news++rest)).F ety.size (es++es') (olds++news):=(Row.append ⟨s4.1,s4.2⟩ ⟨t4.1,t4.2⟩ s3 t3).mono x1.F;have hFb:∀q,q<(es++es').length*ety.size->(g.fresh m w.heap.size ((es.length+es'.length)*ety.size) (c2*ety.size) (olds++news++rest)).F w.heap.size (0+q)=some ((olds++news).getD q undef):=λq hq=>by
   simp only[zu]at hq;show(if w.heap.size=w.heap.size then(if 0+q<(es.length+es'.length)*ety.size then some ((olds++news++rest).getD (0+q) undef)else none)else _)=_;rw[if_pos rfl,y5,if_pos hq];have h1:q<(olds++news).size:=by simp only[x9,s3,t3,<-z2];exact hq
   have h2:q<(olds++news++rest).size:=by rw[x9];omega
   congr 1;rw[Array.getD,dif_pos h2,Array.getD,dif_pos h1];exact wg h1
  have hbm:(g.fresh m w.heap.size ((es.length+es'.length)*ety.size) (c2*ety.size) (olds++news++rest)).blk m=w.heap.size:=if_pos rfl;have hdd:=hrow.dr (b:=w.heap.size) (off:=0) (cap:=c2) hFb (by simpa using r1);have q1:(g.fresh m w.heap.size ((es.length+es'.length)*ety.size) (c2*ety.size) (olds++news++rest)).hi m=(es.length+es'.length)*ety.size:=if_pos rfl;have q2:(g.fresh m w.heap.size ((es.length+es'.length)*ety.size) (c2*ety.size) (olds++news++rest)).cp m=c2*ety.size:=if_pos rfl;have q3:(g.fresh m w.heap.size ((es.length+es'.length)*ety.size) (c2*ety.size) (olds++news++rest)).has m=true:=if_pos rfl;generalize g.fresh m w.heap.size ((es.length+es'.length)*ety.size) (c2*ety.size) (olds++news++rest)=gg at hdd hbm q1 q2 q3;rw[zu,<-hbm]at hdd;rw[<-hbm];refine .ts _ _ _ 0 (es.length+es'.length) c2 h0 q3 hdd (zu) r1 ?_ ?_ (by omega)
  ·rw [y5];exact q1.symm
  ·rw [y5];exact q2.symm
 rcases hcase with⟨hcap,hnil⟩|⟨⟨tb',l1⟩,l2,lpos,l3,off,rfl,l4,l5⟩
 ·by_cases hn0:es'=[]
  ·subst hn0;have hnews:news= #[]:=ux (by simpa using t3);subst hnews;have hst0:(X4 a (es.length*ie.size) (#[]:Array Value).toList).run P w= .ok () w:=by cases a<;>rfl
   have hr:=YD (P:=P) happ o.type (base:=a) (sLen:=es.length) (sCap:=cap) (n:=0) (by simpa using t1) (by rw[het.size];simpa using t2 w rfl) (by omega) hst0;obtain⟨x1,x2⟩:=hst.inv.unhas (m:=m) (M:=M) (tt:=Q2 ti ats) (tb:=tb) hmem;refine hfin (hwp hr) x1 x2 ?_;subst hcap;rw[y4];refine .ts0 _ _ _ _ _ rfl (hds.mono x1.F) (if_pos rfl) λhz=>hnil ?_;have hz':(if m=m then(if tb=true then 0 else 1)else g.hi m)=0:=hz;rw[if_pos rfl]at hz';cases tb<;>first|rfl|simp at hz'
  ·have:0<es'.length:=jp.2 hn0;exact hnew (by omega)
 ·by_cases hle:es.length+es'.length<=cap
  ·obtain ⟨arr,_,f1,f2,f3,f4⟩:=(hst.inv.obs m _ l1).1 l2;have hmul:(es.length+es'.length)*ety.size<=cap*ety.size:=zw _ hle;rw[z2]at hmul;have hone:∀v∈news.toList,v.oneCell'=true:=λv hv=>by
    obtain⟨q,hq,rfl⟩:=yy.1 hv;have hq':q<es'.length*ety.size:=by simpa [t3]using hq
    have e1:q/ety.size<es'.length:=by rw[ur h0];exact hq'
    have e2:q % ety.size<es'[q/ety.size].length:=by rw[t4.1 _ e1];exact u6 _ h0
    have:=(t4.2 _ e1 _ e2).one;rw[uj,kg]at this;simpa [Array.getD,show q<news.size by rw[t3];exact hq']using this
   have hst1:=run_storeCells_at P (g.blk m) (g.hi m) (Q2 ti ats) news.toList 0 arr w f1 (by simp;omega) hone;simp only[x6,wq]at hst1;have hr:=YD (P:=P) happ o.type (base:=some ⟨g.blk m,off,none⟩) (sLen:=es.length) (sCap:=cap) (n:=es'.length) t1 (by rw[het.size];exact t2 w rfl) hle (by rw[het.size];simp only[X4,ZB,l4];exact hst1);obtain⟨x1,x2⟩:=hst.inv.onto (m:=m) (M:=M) (k:=es'.length*ety.size) (tc:=tb) hmem l1 l2 f1 t3 (by omega);refine hfin (hwp hr) x1 x2 ?_;have hrow':Row (g.onto m (es'.length*ety.size) news).F ety.size es' news:=Row.mono x1.F ⟨t4.1,t4.2⟩;have hbm:(g.onto m (es'.length*ety.size) news).blk m=g.blk m:=rfl;have holdrow:Row (g.onto m (es'.length*ety.size) news).F ety.size es olds:=Row.mono x1.F ⟨s4.1,s4.2⟩;have hFb:∀q,q<(es++es').length*ety.size->(g.onto m (es'.length*ety.size) news).F (g.blk m) (off+q)=some ((olds++news).getD q undef):=λq hq=>by
    simp only[zu,z2]at hq;have h2:q<(olds++news).size:=by simp only[x9,s3,t3];exact hq
    by_cases hq1:q<es.length*ety.size
    ·have e1:q/ety.size<es.length:=by rw[ur h0];exact hq1
     have hval:(olds++news).getD q undef=olds.getD q undef:=by
      rw[Array.getD,dif_pos h2,Array.getD,dif_pos (by rw[s3];exact hq1)];exact wg _
     rw[hval];have hsame:=s2 w rfl;have hFq:∃v,g.F (g.blk m) (off+q)=some v:=by
      cases hds with
      |fs0=>simp at hq1
      |fs _ _ _ _ _ _ vs hl hc hs hF hr'=>
       have:=hF (q/ety.size) (q % ety.size) (by omega) (u6 _ h0);rw[show off+q/ety.size*ety.size+q % ety.size=off+q by rw[wl,uj,kg]]at this;exact⟨_,this⟩
     obtain⟨v,hv⟩:=hFq;rw[x1.F _ _ _ hv];have hc1:=hst.inv.frz _ _ _ hv;simp only[Builtin.firstCells]at hsame;have hc2:=run_loadCells (P:=P) w ⟨g.blk m,off,none⟩ (es.length*ety.size) (λj=>((w.cell? ⟨g.blk m,off+j,none⟩).getD undef)) (λj hj=>by
      rw[ZB];have e1:j/ety.size<es.length:=by rw[ur h0];exact hj
      have:∃v,g.F (g.blk m) (off+j)=some v:=by
       cases hds with
       |fs0=>simp at hj
       |fs _ _ _ _ _ _ vs hl hc hs hF hr'=>
        have:=hF (j/ety.size) (j % ety.size) (by omega) (u6 _ h0);rw[show off+j/ety.size*ety.size+j % ety.size=off+j by rw[wl,uj,kg]]at this;exact⟨_,this⟩
      obtain⟨v,hv⟩:=this;rw[hst.inv.frz _ _ _ hv];rfl)
     rw[hc2]at hsame;simp only[ja,and_true]at hsame;rw[<-hsame,X0 (λj=>((w.cell? ⟨g.blk m,off+j,none⟩).getD undef)) _ _ hq1,hc1];rfl
    ·have hval:(olds++news).getD q undef=news.getD (q-es.length*ety.size) undef:=by
      have h3:q-es.length*ety.size<news.size:=by rw[t3];omega
      rw[Array.getD,dif_pos h2,Array.getD,dif_pos h3];have:=ki (xs:=olds) (ys:=news) (i:=q) (h:=h2) (by rw[s3];omega);simp only[s3]at this;exact this
     rw[hval];show(if g.blk m=g.blk m/\g.hi m<=off+q/\off+q<g.hi m+es'.length*ety.size then some (news.getD (off+q-g.hi m) undef)else _)=_;rw[if_pos ⟨rfl,by omega,by omega⟩];congr 2;omega
   have hdd:=(Row.append holdrow hrow' s3 t3).dr (b:=g.blk m) (off:=off) (cap:=cap) hFb (by simpa using hle);rw[zu]at hdd;refine .ts _ _ _ off (es.length+es'.length) cap h0 l2 hdd (zu) hle ?_ ?_ (by omega)
   ·show _=if m=m then g.hi m+es'.length*ety.size else _
    rw[if_pos rfl,z2];omega
   ·exact l5
  ·exact hnew (by omega)
theorem Inv.freeze{B:Nat}{T:TypeId}(hi:Inv κ g mem w)(hno:∀m,On g mem m->g.blk m≠B)(hown:κ.w0.heap.size<=B\/B∈κ.mod)(hB:w.heap[B]? =some (.cells arr T fz)):
  Inv κ g mem (w.freeze ⟨B,off,none⟩ k):=by
 by_cases hk:k=0
 ·subst hk;exact hi
 have hh:∃fz',∀b,(w.freeze ⟨B,off,none⟩ k).heap[b]? =if b=B then some (.cells arr T fz')else w.heap[b]? :=by
  obtain⟨lo,hi'⟩:=fz;refine⟨if lo==hi' then(off,off+k)else(min lo off,max hi' (off+k)),λb=>?_⟩;simp only[World.freeze,if_neg hk,qi];by_cases hb:b=B
  ·subst hb;simp[hB]
  ·simp [hb,vb hb]
 obtain⟨fz',hh⟩:=hh;have ho:∀b,b≠B->(w.freeze ⟨B,off,none⟩ k).heap[b]? =w.heap[b]? :=λb hb=>by rw[hh,if_neg hb]
 have hs:(w.freeze ⟨B,off,none⟩ k).heap.size=w.heap.size:=by simp[World.freeze,hk]
 have e1:(w.freeze ⟨B,off,none⟩ k).os=w.os:=by simp[World.freeze,hk]
 have e2:(w.freeze ⟨B,off,none⟩ k).tape=w.tape:=by simp[World.freeze,hk]
 have e3:(w.freeze ⟨B,off,none⟩ k).output=w.output:=by simp[World.freeze,hk]
 have hc:∀b o,(w.freeze ⟨B,off,none⟩ k).cell? ⟨b,o,none⟩=w.cell? ⟨b,o,none⟩:=λb o=>by
  simp only[World.cell?,hh];by_cases hb:b=B
  ·subst hb;simp[hB]
  ·simp [hb]
 refine⟨λb o v h=>by rw[hc];exact hi.frz b o v h,λn ob hn=>?_,hi.inj,by rw[hs];exact hi.size,λb hb hm=>?_,hi.own,hi.f0,hi.fnew,e1.trans hi.os,e2.trans hi.tape,e3.trans hi.output,λD hD=>?_⟩
 ·have hob:=hi.obs n ob hn;cases ob with
  |cells size c=>
   have hne:=hno n (by unfold On;rw[hn];trivial);obtain⟨a',T',q1,qr⟩:=hob;exact⟨a',T',by rw[ho _ hne];exact q1,qr⟩
  |tag m' t'=>
   obtain⟨a',fz0,q⟩:=hob;by_cases hb:g.blk m'=B
   ·rw [hb,hB]at q;cases q;exact⟨_,_,by rw[hh,if_pos hb]⟩
   ·exact ⟨a',fz0,by rw[ho _ hb];exact q⟩
  |vec t' sz' es' f'=>exact ZM.mono hob (λ_ _ _ h=>h) rfl rfl rfl rfl (λhx=>ho _ (hno n (by unfold On;rw[hn];exact hx))) (λ_ _ h=>h)
  |tail t b=>
   refine⟨λhx=>?_,hob.2⟩;have hne:=hno n (by unfold On;rw[hn];exact hx);obtain⟨a',T',q1,qr⟩:=hob.1 hx;exact⟨a',T',by rw[ho _ hne];exact q1,qr⟩
  |frame sz l=>exact hob
  |loop k ps asg body st pd=>
   have hne:=hno n (by unfold On;rw[hn];trivial);obtain⟨eb,fn,D,q⟩:=hob;exact⟨eb,fn,D,by rw[ho _ hne];exact q⟩
  |mp b ag tp l=>exact ZQ.mono hob (λ_ _ _ h=>h) rfl rfl rfl rfl (λhx=>ho _ (hno n (by unfold On;rw[hn];exact hx))) (λ_ _ h=>h)
 ·rw [ho b (λe=>by subst e;rcases hown with h|h<;>first|omega|exact hm h)];exact hi.pres b hb hm
 ·have:=hi.dfr D hD;rw[ho D (λe=>by subst e;rw[hB]at this;cases this)];exact this
theorem QDN{e:TypeId}(hc:P.cellsOf e=1)(count off n:Nat)(hn:off+n<=count):liesAt P P.depth e count off e n=true:=by
 have hd:P.depth=(2*(P.types.size+Made.depth)+1)+1:=rfl;rw[hd];simp only[liesAt,wj];left;rw[hd];simp[rowAt,hc,hn,sameLayout,Nat.mod_one]
theorem QIP{m:Array Value->Sort _}(p:Option Addr)(len:Value)(h1:(p:Option Addr)->(len:Value)->m #[.pointer p,len])(h2:(x:Array Value)->m x):Builtin.unsafeString_.match_3 m #[.pointer p,len] h1 h2=h1 p len:=rfl
theorem YP(w:World)(ats:Array TypeId)(pt ty:TypeId)(hats:ats[0]? =some pt)(p:Option Addr):(Builtin.unsafeString_ ats ty #[.pointer p,.int .i64 0]).run P w= .ok (.string .empty) w:=by
 have hmax:IntKind.i64.max=9223372036854775807:=rfl;cases p<;>rw[Builtin.unsafeString_.eq_1,QIP]<;>simp[asInt,asIntOf,hats,hmax]
theorem QA4(w:World)(ats:Array TypeId)(pt ty e:TypeId)(hats:ats[0]? =some pt)(hp:P.underlying pt=some (.pointer e))(hc:P.cellsOf e=1)(b off cells:Nat)(hsh:w.shape? b=some (e,cells))(l:List UInt8)(h0:l≠[])(hn:off+l.length<=cells)(h63:l.length<=9223372036854775807)
  (hcell:∀j x,l[j]? =some x->w.cell? ⟨b,off+j,none⟩=some (.int .u8 x.toNat)):
  (Builtin.unsafeString_ ats ty #[.pointer (some ⟨b,off,none⟩),.int .i64 l.length]).run P w= .ok (.string ⟨l.toArray⟩) (w.freeze ⟨b,off,none⟩ l.length):=by
 have hl:l.length≠0:=by simpa using h0
 have hlb:=Lib.run_loadBytes (P:=P) w l ⟨b,off,none⟩ .empty (λj x hx=>by rw[ZB];exact hcell j x hx);have hlies:=QDN (P:=P) hc (cells/P.cellsOf e) off l.length (by rw[hc];simpa using hn);have h63':¬(9223372036854775807:Int)<(l.length:Int):=by omega
 have hmax:IntKind.i64.max=9223372036854775807:=rfl;have hneg:¬(l.length:Int)<0:=by omega
 rw[Builtin.unsafeString_.eq_1,QIP];simp[asInt,asIntOf,hats,hmax,h63',hneg,hl,variablesAt,hsh,elemOf,run_underlying hp,hlies,hlb]
theorem QIQ{o:Ob}(h:o.lt M=true):(o.down m).lt M=true:=by
 cases o with
 |cells size c=>
  simp only[Ob.lt,Ob.down,ze,yf]at h⊢;exact λx ⟨z,hz,e⟩=>e▸QBT (h z hz)
 |vec=>rfl
 |tail=>rfl
 |tag m' t'=>
  simp only[Ob.down];cases Nat.beq m' m<;>first|rfl|exact h
 |frame sz l=>
  simp only[Ob.lt,Ob.down,ze]at h⊢;intro x hx;obtain⟨z,hz,rfl⟩:=QAp hx;exact QIO (h z hz)
 |loop k ps asg body st pd=>exact h
 |mp=>rfl
theorem QON{ats:Array TypeId}{pt:Nat}{pty:Ty}{l:List UInt8}(hti:QU P ti)(hop:o.op= .call ⟨.builtin .unsafeString,#[x,y],ats⟩)(hats:ats[0]? =some pt)(hd:o.dst=some d)(hdN:d<N)(hx:ρ σ.sl x=some (.sd es n))(hy:ρ σ.sl y=some (.d (.it .i64 l.length)))
  (hm:look n σ.mem=some (.tail t b)) (hpt:ti pt=some pty) (hpk:pty.kd= .ptr t) (he:ti t=some ety) (hs1:ety.size=1) (hes:es=QD l) (h63:l.length<=9223372036854775807)
  (hK:K ⟨(d,.d (.st l))::XJ n σ.sl,(n,.tail t b)::ZJ n σ.mem,σ.nx⟩):Zz P N o σ K:=by
 intro κ g A w hst next Q hn
 obtain⟨u,i,hpt⟩:=QE (hti _ _ hpt);obtain⟨u',i',he⟩:=QE (hti _ _ he);obtain rfl:=QGo hpt hpk;have hmem:∀k ob,look k σ.mem=some ob->k<σ.nx/\ob.lt σ.nx=true:=λk ob h=>S.ok_mem hst.ok h;have hy1:=ZI (ρ_ok hst.sl hy);have hx1:=ρ_ok hst.sl hx;have hlast:∀ {g':Gh} {w':World},(execOp A.eval o).run P w= .ok (.value (.string ⟨l.toArray⟩)) w'->JU n σ.nx g g'->Inv κ g' ((n,.tail t b)::ZJ n σ.mem) w'->o.wpIn (wd κ.rd) 0 P A w next Q:=fun{g' w'} h1 h2 h3=>by
  refine Qc h1 (hn g' _ _ w' hK ?_);rw[hd];refine hst.putX (g':=g') (w':=w') hdN (zt _) h2 h3 (.d _ _ (.st l)) rfl λp hp=>?_;rcases zi.1 hp with rfl|hp
  ·exact ⟨(hmem _ _ hm).1,rfl⟩
  ·obtain ⟨q,hq,rfl⟩:=QAq hp;have:=S.ok_memAll hst.ok q hq;refine⟨this.1,?_⟩;exact QIQ this.2
 obtain⟨x1,x2⟩:=hst.inv.unhas (m:=n) (M:=σ.nx) (tt:=t) (tb:=b) hmem;have hrun:(execOp A.eval o).run P w=(do let v <-Builtin.unsafeString_ ats o.type #[A.eval x,A.eval y];pure (Next.value v)).run P w:=by
  rw[QQ hop];simp[builtin]
 generalize hev:A.eval x=q at hx1 hrun;cases hx1 with|sd _ _ p hp=>?_
 by_cases hl:l=[]
 ·subst hl;refine hlast ?_ x1 x2;rw[hrun,hy1];have:=YP (P:=P) w ats pt o.type hats p;simp only[xv,Int.ofNat_zero]at this⊢;simp only[zp,this,zg,zq];rfl
 ·obtain ⟨off,len,cap,rfl,k2,k3,k4,k5⟩:=hp (by subst hes;simpa using hl);obtain⟨arr,_,f1,f2,f3,f4⟩:=(hst.inv.obs n _ hm).1 k2;have hlen:es.length=l.length:=by subst hes;simp
  have hcell:∀j x,l[j]? =some x->w.cell? ⟨g.blk n,off+j,none⟩=some (.int .u8 x.toNat):=λj x hj=>by
   have hjl:j<l.length:=by
    rcases yj j l.length with h|h
    ·exact h
    ·simp [wo h]at hj
   have hx':x=l[j]:=by simpa [hjl]using hj.symm
   have hej:∀(h:j<es.length),es[j]=[D.it .u8 l[j].toNat]:=λh=>by
    have:=List.getElem_of_eq hes h;simpa using this
   clear hes;cases k3 with
   |fs0=>simp at hlen;omega
   |fs _ _ _ _ _ _ vs hl' hc hs hF hr=>
    have hje:j<es.length:=by omega
    have q1:=hst.inv.frz _ _ _ (hF j 0 (by omega) (by omega));have q2:=hr j hje 0 (by rw[hej hje];simp);have q3:es[j][0]'(by rw[hej hje];simp)=D.it .u8 l[j].toNat:=by simp[hej hje]
    rw[q3]at q2;rw[show off+j*1+0=off+j by omega]at q1;rw[q1];generalize vs j 0=z at q2;cases q2;rw[hx']
  have hcof:P.cellsOf t=1:=by simp[Program.cellsOf,he.info,he.size,hs1]
  have hus:=QA4 (P:=P) w ats pt o.type t hats hpt.und hcof (g.blk n) off arr.size (by simp[World.shape?,f1]) l hl (by omega) h63 hcell;refine hlast (w':=w.freeze ⟨g.blk n,off,none⟩ l.length) ?_ x1 (x2.freeze (B:=g.blk n) (off:=off) (k:=l.length) (λm hm'=>?_) (hst.inv.own n (by unfold On;rw[hm];exact k2)) f1)
  ·rw [hrun,hy1];simp only[zp,hus,zg,zq]
  ·show g.blk m≠g.blk n;unfold On at hm';rw[QC]at hm';by_cases hmn:m=n
   ·rw [if_pos hmn]at hm';have h0:(if m=n then false else g.has m)=true:=hm';rw[if_pos hmn]at h0;cases h0
   ·rw [if_neg hmn,X6]at hm';refine hst.inv.inj m n hmn ?_ (by unfold On;rw[hm];exact k2);unfold On;cases hl':look m σ.mem with
    |none=>rw[hl']at hm';exact hm'
    |some ob=>
     rw[hl']at hm';cases ob with
     |cells=>trivial
     |vec=>
      have h0:(if m=n then false else g.has m)=true:=hm';rw[if_neg hmn]at h0;exact h0
     |tail=>
      have h0:(if m=n then false else g.has m)=true:=hm';rw[if_neg hmn]at h0;exact h0
     |tag m' t'=>simp only[Option.map,Ob.down]at hm';cases hb:Nat.beq m' n<;>rw[hb]at hm'<;>exact hm'
     |frame=>exact hm'
     |loop=>trivial
     |mp=>
      have h0:(if m=n then false else g.has m)=true:=hm';rw[if_neg hmn]at h0;exact h0
end
theorem Inv.swap(hi:Inv κ g ((n,o)::mem) w)(ho:Zv κ g w n o')(hon:On g ((n,o')::mem) n->On g ((n,o)::mem) n):Inv κ g ((n,o')::mem) w:=by
 have on:∀m,On g ((n,o')::mem) m->On g ((n,o)::mem) m:=λm h=>by
  by_cases hm:m=n
  ·subst hm;exact hon h
  ·unfold On at h⊢;rw[QC,if_neg hm]at h⊢;exact h
 refine⟨hi.frz,λm ob hm=>?_,λm m' hmm h h'=>hi.inj m m' hmm (on m h) (on m' h'),hi.size,hi.pres,λm h=>hi.own m (on m h),hi.f0,hi.fnew,hi.os,hi.tape,hi.output,hi.dfr⟩;rw[QC]at hm;by_cases hmn:m=n
 ·subst hmn;rw[if_pos rfl]at hm;obtain rfl:=za hm;exact ho
 ·rw [if_neg hmn]at hm;exact hi.obs m ob (by rw[QC,if_neg hmn];exact hm)
theorem JU.rfl:JU m M g g:=⟨λ_ _ _ h=>h,λ_ _ _=>Eq.refl _,λ_ _ _=>Eq.refl _,λ_ _ _=>Eq.refl _,λ_ _ _=>Eq.refl _⟩
theorem Inv.forget(hi:Inv κ g mem w)(hmem:∀k ob,look k mem=some ob->k<M/\ob.lt M=true)(hm:look n mem=some o):Inv κ g ((n,o)::ZJ n mem) w:=by
 have hlook:∀k,look k ((n,o)::ZJ n mem)=if k=n then some o else(look k mem).map (Ob.down n):=λk=>by rw[QC,X6]
 have on:∀k,On g ((n,o)::ZJ n mem) k->On g mem k:=λk h=>by
  unfold On at h⊢;rw[hlook]at h;by_cases hk:k=n
  ·subst hk;rw[if_pos rfl]at h;rw[hm];exact h
  ·rw [if_neg hk]at h;cases hl:look k mem with
   |none=>rw[hl]at h;exact h
   |some ob=>
    rw[hl]at h;cases ob with
    |cells=>trivial
    |tail=>exact h
    |vec=>exact h
    |tag m' t'=>simp only[Option.map,Ob.down]at h;cases hb:Nat.beq m' n<;>rw[hb]at h<;>exact h
    |frame=>exact h
    |loop=>trivial
    |mp=>exact h
 refine⟨hi.frz,λk ob hk=>?_,λm m' hmm h h'=>hi.inj m m' hmm (on m h) (on m' h'),hi.size,hi.pres,λm h=>hi.own m (on m h),hi.f0,hi.fnew,hi.os,hi.tape,hi.output,hi.dfr⟩;rw[hlook]at hk;by_cases hkn:k=n
 ·subst hkn;rw[if_pos rfl]at hk;obtain rfl:=za hk;exact hi.obs k _ hm
 ·rw [if_neg hkn]at hk;cases hl:look k mem with
  |none=>rw[hl]at hk;cases hk
  |some ob0=>
   rw[hl]at hk;obtain rfl:=za hk;obtain⟨hkM,hlt⟩:=hmem k ob0 hl;have hob:=hi.obs k ob0 hl;cases ob0 with
   |cells size c=>
    obtain⟨arr',T',e1,e2,e3,e4,e5,e6⟩:=hob;simp only[Ob.lt,ze]at hlt;refine⟨arr',T',e1,e2,by simpa using e3,λj hj=>?_,λj hj=>?_,e6⟩
    ·simp only[zb]at hj;simp only[z1,Jk];exact e4 j hj
    ·simp only[zb]at hj;simp only[z1];exact(e5 j hj).dn1 (M:=M) JU.rfl (hlt _ (zm hj))
   |tag m' t'=>
    simp only[Ob.down];cases hb:Nat.beq m' n with
    |true=>exact⟨(λ_ h=>by cases h),(λ_ _ h=>by cases h)⟩
    |false=>exact hob
   |vec t' sz' es' f'=>exact hob
   |tail=>exact hob
   |frame sz l=>
    simp only[Ob.lt,ze]at hlt;refine⟨hob.1,?_⟩;intro s v hs;rw[X5]at hs;cases hl':look s l with
    |none=>rw[hl']at hs;cases hs
    |some y=>
     rw[hl']at hs;obtain rfl:=za hs;exact(hob.2 s y hl').dn (M:=M) JU.rfl (hlt _ (Qb hl'))
   |loop k' ps asg body st pd=>exact hob
   |mp b ag tp l=>exact hob
theorem Inv.vecWrite{fl2:Bool}(hi:Inv κ g ((n,.vec t sz es fl)::mem) w)(hh:g.has n=true)(hw:w.heap[g.blk n]? =some (.cells arr t (0,0)))(hs:arr'.size=arr.size)
  (hx:∀x∈es2,x.length=sz) (hl:es2.length*sz<=g.cp n) (hd:∀i (h:i<es2.length) j (hj:j<es2[i].length),DR g.F es2[i][j] (arr'.getD (g.hi n+i*sz+j) undef)) (hf:fl2=true->es2.length*sz=g.cp n) (h1:∀j,j<g.cp n->(arr'.getD (g.hi n+j) undef).oneCell'=true):Inv κ g ((n,.vec t sz es2 fl2)::mem) (w.setRow (g.blk n) arr'):=by
 have hon:On g ((n,.vec t sz es fl)::mem) n:=by unfold On;rw[QC,if_pos rfl];exact hh
 have hob0:=hi.obs n _ (by rw[QC,if_pos rfl]);obtain⟨arr0,f1,f2,f3,f4,hF,_,_⟩:=hob0.2.2 hh;rw[hw]at f1;obtain rfl:arr=arr0:=by simpa using f1
 have on:∀m,On g ((n,.vec t sz es2 fl2)::mem) m->On g ((n,.vec t sz es fl)::mem) m:=λm h=>by
  unfold On at h⊢;rw[QC]at h⊢;by_cases hm:m=n
  ·rw [if_pos hm]at h⊢;exact h
  ·rw [if_neg hm]at h⊢;exact h
 refine⟨λb o v h=>?_,λm ob hm=>?_,λm m' hmm h h'=>hi.inj m m' hmm (on m h) (on m' h'),by rw[setRow_size];exact hi.size,λb hb hm=>?_,λm h=>hi.own m (on m h),hi.f0,hi.fnew,hi.os,hi.tape,hi.output,λD hD=>by rw[setRow_other _ _ _ _ (λe=>by have:=hi.dfr D hD;rw[e,hw]at this;cases this)];exact hi.dfr D hD⟩
 ·rw [cell_setRow_other _ _ _ _ (by
   show b≠g.blk n;rintro rfl;rw[hF]at h;cases h)]
  exact hi.frz b o v h
 ·rw [QC]at hm;by_cases hmn:m=n
  ·subst hmn;rw[if_pos rfl]at hm;obtain rfl:=za hm;exact⟨hx,(λh=>by rw[hh]at h;cases h),λ_=>⟨arr',setRow_heap w _ _ _ _ _ hw,by rw[hs];exact f2,hl,hd,hF,hf,h1⟩⟩
  ·rw [if_neg hmn]at hm;have hm':look m ((n,Ob.vec t sz es fl)::mem)=some ob:=by rw[QC,if_neg hmn];exact hm
   have hob:=hi.obs m ob hm';cases ob with
   |cells s c=>
    have hne:g.blk m≠g.blk n:=hi.inj m n hmn (by unfold On;rw[hm'];trivial) hon;obtain⟨a',T',e1,er⟩:=hob;exact⟨a',T',by rw[setRow_other _ _ _ _ hne];exact e1,er⟩
   |tag m' t'=>
    obtain⟨a',fz',e⟩:=hob;by_cases hb:g.blk m'=g.blk n
    ·rw [hb,hw]at e;cases e;exact⟨_,_,by rw[hb];exact setRow_heap w _ _ _ _ _ hw⟩
    ·exact ⟨a',fz',by rw[setRow_other _ _ _ _ hb];exact e⟩
   |vec t' sz' es' f'=>exact ZM.mono hob (λ_ _ _ h=>h) rfl rfl rfl rfl (λhh=>setRow_other _ _ _ _ (hi.inj m n hmn (by unfold On;rw[hm'];exact hh) hon)) (λ_ _ h=>h)
   |tail=>
    refine⟨λhh=>?_,hob.2⟩;have hne:g.blk m≠g.blk n:=hi.inj m n hmn (by unfold On;rw[hm'];exact hh) hon;obtain⟨a',T',e1,er⟩:=hob.1 hh;exact⟨a',T',by rw[setRow_other _ _ _ _ hne];exact e1,er⟩
   |frame sz l=>exact hob
   |loop k ps asg body st pd=>
    have hne:g.blk m≠g.blk n:=hi.inj m n hmn (by unfold On;rw[hm'];trivial) hon;obtain⟨eb,fn,D,e⟩:=hob;exact⟨eb,fn,D,by rw[setRow_other _ _ _ _ hne];exact e⟩
   |mp b ag tp l=>exact ZQ.mono hob (λ_ _ _ h=>h) rfl rfl rfl rfl (λhh=>setRow_other _ _ _ _ (hi.inj m n hmn (by unfold On;rw[hm'];exact hh) hon)) (λ_ _ h=>h)
 ·have hne:b≠g.blk n:=by
   rintro rfl;rcases hi.own n hon with h|h
   ·omega
   ·exact hm h
  rw[setRow_other _ _ _ _ hne];exact hi.pres b hb hm
theorem QAV{len:Nat}(hv:ZM g w n t sz es fl)(h:AVR g (.vx sz n i len) u)(hle:i+len<=es.length):X7 P g w sz ((es.drop i).take len) u:=by
 have hlen:((es.drop i).take len).length=len:=by simp;omega
 cases h with|vx _ _ _ _ ad c hc had=>?_
 refine⟨by simp[Builtin.lenOf,hlen],?_⟩;by_cases h0:len=0
 ·subst h0;refine⟨#[],λw' _=>?_,by simp,(λk h=>by simp at h),(λk h=>by simp at h)⟩;cases ad with
  |none=>simp[Builtin.firstCells]
  |some a=>simp[Builtin.firstCells,loadCells,loadCellsFrom]
 ·obtain ⟨v1,v2,v3⟩:=hv;obtain⟨hh,rfl,hcp⟩:=had.pos (by omega);obtain⟨arr,e1,e2,e3,e4,e5,_,_⟩:=v3 hh;have hb:(i+len)*sz<=g.cp n:=xy (zw _ hle) e3;rw[z2]at hb;refine⟨((List.range (len*sz)).map λx=>arr.getD (g.hi n+i*sz+x) undef).toArray,λw' hw'=>?_,by simp[hlen],λk hk=>v1 _ (xx (xg (zm hk))),λk hk j hj=>?_⟩
  ·simp only[Builtin.firstCells,hlen];refine run_loadCells _ _ _ _ λx hx=>?_;rw[ZB];have hlt:g.hi n+i*sz+x<arr.size:=by omega
   simp[World.cell?,hw',e1,Array.getD,hlt]
  ·have hk':i+k<es.length:=by omega
   have hke:((es.drop i).take len)[k]=es[i+k]:=by simp
   have hj':j<es[i+k].length:=by rw[<-hke];exact hj
   have hjs:j<sz:=by rw[<-v1 _ (zm hk')];exact hj'
   have hlt:k*sz+j<len*sz:=by
    have:(k+1)*sz<=len*sz:=zw _ (by omega);rw[z2]at this;omega
   rw[X0 (λx=>arr.getD (g.hi n+i*sz+x) undef) _ _ hlt];have:=e4 (i+k) hk' j hj';rw[z2]at this;rw[show g.hi n+i*sz+(k*sz+j)=g.hi n+(i*sz+k*sz)+j by omega];simp only[hke];exact this
theorem QB6(h:Row F sz es cs)(hc:cs.size=es.length*sz)(h0:0<sz)(hq:q<cs.size):(cs.getD q undef).oneCell'=true:=by
 have hq':q<es.length*sz:=by rw[<-hc];exact hq
 have e1:q/sz<es.length:=by rw[ur h0];exact hq'
 have e2:q % sz<es[q/sz].length:=by rw[h.1 _ e1];exact u6 _ h0
 have:=(h.2 _ e1 _ e2).one
 rwa [uj,kg]at this
theorem QIR{z rest:Array Value}{l:List D}(hr:rest=Builtin.zeroCells z k)(h:∀j,j<l.length->(z.getD j undef).oneCell'=true)(hl:l.length=z.size)(h0:0<l.length)(j:Nat)(hj:j<rest.size):rest[j].oneCell'=true:=by
 subst hr;simp only[Builtin.zeroCells,Wc,qn];have hm:j % z.size<z.size:=u6 _ (by omega);rw[getElem!_pos z _ hm];have:=h (j % z.size) (by omega)
 rwa [Array.getD,dif_pos hm]at this
theorem QC6{α:Type}{x y:α}{l:List (Nat×α)}(k:Nat):look k ((n,x)::(n,y)::l)=look k ((n,x)::l):=by
 rw[QC,QC,QC];by_cases h:k=n
 ·rw [if_pos h,if_pos h]
 ·rw [if_neg h,if_neg h,if_neg h]
theorem Inv.unshadow(hi:Inv κ g ((n,o)::(n,o')::mem) w):Inv κ g ((n,o)::mem) w:=by
 have on:∀m,On g ((n,o)::mem) m->On g ((n,o)::(n,o')::mem) m:=λm h=>by
  unfold On at h⊢;rw[QC6];exact h
 exact⟨hi.frz,λm ob hm=>hi.obs m ob (by rw[QC6];exact hm),λm m' hmm h h'=>hi.inj m m' hmm (on m h) (on m' h'),hi.size,hi.pres,λm h=>hi.own m (on m h),hi.f0,hi.fnew,hi.os,hi.tape,hi.output,hi.dfr⟩
section
variable {P:Program} {ti:Nat->Option Ty} {N:Nat} {o:Oper} {σ:S} {K:S->Prop}
theorem QFq{A:Act}(hst:St κ N g σ A w){ats:Array TypeId}{len:Nat}(hti:QU P ti)(hop:o.op= .call ⟨.builtin .append,#[x,y],ats⟩)(hd:o.dst=some d)(hdN:d<N)(he:X3 ti ats=some ety)(hb:ety.bytes<=65536)(h0:0<ety.size)(hz:ety.zero.length=ety.size)
  (hxv:AVR g (.vx ety.size n 0 len) (A.eval x)) (ht:X7 P g w ety.size es' (A.eval y)) (hm:look n σ.mem=some (.vec (Q2 ti ats) ety.size es fl)) (hlen:len<=es.length) (hle:len+es'.length<=1073741824)
  (hK:K ⟨(d,.vx ety.size n 0 (len+es'.length))::XJ n σ.sl,(n,.vec (Q2 ti ats) ety.size (es.take len++es') false)::ZJ n σ.mem,σ.nx⟩):∀(next:Act->World->Prop) (Q:Exit->Act->World->Prop),(∀g' σ' a' w',K σ'->St κ N g' σ' a' w'->next a' w')->o.wpIn (wd κ.rd) 0 P A w next Q:=by
 obtain⟨e,ue,ie,het,happ,hid⟩:=QAs hti he;intro next Q hn
 have hmem:∀k ob,look k σ.mem=some ob->k<σ.nx/\ob.lt σ.nx=true:=λk ob h=>S.ok_mem hst.ok h;have hnx:=(hmem n _ hm).1;have hmem':∀p∈(n,Ob.vec (Q2 ti ats) ety.size (es.take len++es') false)::ZJ n σ.mem,p.1<σ.nx/\p.2.lt σ.nx=true:=λp hp=>by
  rcases zi.1 hp with rfl|hp
  ·exact ⟨hnx,rfl⟩
  ·obtain ⟨q,hq,rfl⟩:=QAq hp;have:=S.ok_memAll hst.ok q hq;exact⟨this.1,QIQ this.2⟩
 generalize hu:A.eval x=q at hxv;have hvec:ZM g w n (Q2 ti ats) ety.size es fl:=hst.inv.obs n _ hm;have hcell:=QAV (P:=P) hvec hxv (by omega);cases hxv with|vx _ _ _ _ ad c hc had=>?_
 obtain⟨t1,news,t2,t3,t4⟩:=ht;obtain⟨_,olds,s2,s3,s4⟩:=hcell;have hl:((es.drop 0).take len).length=len:=by simp;omega
 have hd0:(es.drop 0).take len=es.take len:=by simp
 rw[hl]at s2 s3;have hexec:∃cs,execOp A.eval o=builtin .append ats o.type cs #[.slice ad len c,A.eval y]:=by
  have:=QQ hop A;simp only[uo,w8,uw,hu]at this;exact⟨_,this⟩
 obtain⟨cs,hexec⟩:=hexec;have hts:(AV.vx ety.size n 0 (len+es'.length)).lt σ.nx=true:=QKu hnx;have hwp:∀ {u:Value} {w':World},(Builtin.append_ ats o.type #[.slice ad len c,A.eval y]).run P w= .ok u w'->(execOp A.eval o).run P w= .ok (.value u) w':=λh=>by
  rw[hexec];simp only[builtin,zp,h,zg,zq]
 have hfin:∀ {g':Gh} {u:Value} {w':World},(execOp A.eval o).run P w= .ok (.value u) w'->JU n σ.nx g g'->Inv κ g' ((n,.vec (Q2 ti ats) ety.size (es.take len++es') false)::ZJ n σ.mem) w'->AVR g' (.vx ety.size n 0 (len+es'.length)) u->o.wpIn (wd κ.rd) 0 P A w next Q:=λh1 h2 h3 h4=>
  Qc h1 (hn _ _ _ _ hK (by rw[hd];exact hst.putX hdN (zt _) h2 h3 h4 hts hmem'))
 have hsz2:∀x∈es.take len++es',x.length=ety.size:=λx hx=>by
  rcases yd.1 hx with h|h
  ·exact hvec.1 _ (xg h)
  ·obtain ⟨j,hj,rfl⟩:=yy.1 h;exact t4.1 j hj
 have hlen2:(es.take len++es').length=len+es'.length:=by simp;omega
 by_cases hfit:len+es'.length<=c
 ·have hfor:=hst.inv.forget hmem hm;by_cases hc0:c=0
  ·have e0:es'=[]:=yx.1 (by omega);have hl0:len=0:=by omega
   subst e0 hl0 hc0;have hnews:news= #[]:=ux (by simpa using t3);subst hnews;have hst0:(X4 ad (0*ie.size) (#[]:Array Value).toList).run P w= .ok () w:=by cases ad<;>rfl
   have hr:=YD (P:=P) happ o.type (base:=ad) (sLen:=0) (sCap:=0) (n:=0) (by simpa using t1) (by rw[het.size];simpa using t2 w rfl) (by omega) hst0;refine hfin (hwp hr) JU.rfl (hfor.swap ?_ λh=>?_) (.vx _ _ _ _ _ _ (zt _) had)
   ·obtain ⟨v1,v2,v3⟩:=hvec;refine⟨(λx hx=>by simp at hx),(λ_=>by simp),λhh=>?_⟩;obtain⟨arr,e1,e2,e3,e4,e5,_,e7⟩:=v3 hh;exact⟨arr,e1,e2,by simp,(λi hi=>by simp at hi),e5,(λh=>by cases h),e7⟩
   ·unfold On at h⊢;rw[QC,if_pos rfl]at h⊢;exact h
  ·obtain ⟨hh,rfl,hcp⟩:=had.pos (by omega);obtain⟨arr,e1,e2,e3,e4,e5,_,e7⟩:=hvec.2.2 hh;have hmul:(len+es'.length)*ety.size<=c*ety.size:=zw _ hfit;rw[y5]at hcp;rw[z2]at hmul;have hone:∀v∈news.toList,v.oneCell'=true:=λv hv=>by
    obtain⟨q,hq,rfl⟩:=yy.1 hv;have hq':q<es'.length*ety.size:=by simpa [t3]using hq
    have e1:q/ety.size<es'.length:=by rw[ur h0];exact hq'
    have e2:q % ety.size<es'[q/ety.size].length:=by rw[t4.1 _ e1];exact u6 _ h0
    have:=(t4.2 _ e1 _ e2).one;rw[uj,kg]at this;simpa [Array.getD,show q<news.size by rw[t3];exact hq']using this
   have hst1:=run_storeCells_at P (g.blk n) (g.hi n+len*ety.size) (Q2 ti ats) news.toList 0 arr w e1 (by simp;omega) hone;simp only[x6,wq]at hst1;have hr:=YD (P:=P) happ o.type (base:=some ⟨g.blk n,g.hi n+0*ety.size,none⟩) (sLen:=len) (sCap:=c) (n:=es'.length) t1 (by rw[het.size];exact t2 w rfl) hfit (by rw[het.size];simp only[X4,ZB,kr,x6];exact hst1);refine hfin (hwp hr) JU.rfl (hfor.vecWrite hh e1 (by simp;omega) hsz2 (by rw[hlen2,z2];omega) (λi hi j hj=>?_) (λh=>by cases h) λj hj=>?_) (.vx _ _ _ _ _ _ hfit had)
   case refine_2=>
    rw[ZC _ _ _ _ (by omega) (by omega)];by_cases hin:g.hi n+len*ety.size<=g.hi n+j/\g.hi n+j<g.hi n+len*ety.size+news.size
    ·rw [if_pos hin];have hq:g.hi n+j-(g.hi n+len*ety.size)<news.size:=by omega
     rw[Array.getD,dif_pos hq];exact hone _ (by simp)
    ·rw [if_neg hin];exact e7 j hj
   have hj':j<ety.size:=by rw[<-hsz2 _ (zm hi)];exact hj
   have hi2:i<len+es'.length:=by rw[<-hlen2];exact hi
   have hmi:i*ety.size+ety.size<=(len+es'.length)*ety.size:=by
    have:(i+1)*ety.size<=(len+es'.length)*ety.size:=zw _ (by omega);rw[z2]at this;omega
   rw[z2]at hmi;rw[ZC _ _ _ _ (by omega) (by omega)];by_cases hil:i<len
   ·have hmi2:i*ety.size+ety.size<=len*ety.size:=by
     have:(i+1)*ety.size<=len*ety.size:=zw _ (by omega);rw[z2]at this;omega
    rw[if_neg (by omega)];have hge:(es.take len++es')[i]=es[i]:=by
     rw[zx (by simp;omega),xl]
    have:=e4 i (by omega) j (by rw[<-hge];exact hj);simpa only[hge]using this
   ·have hmi2:len*ety.size<=i*ety.size:=zw _ (by omega);rw[if_pos (by rw[t3];omega)];have hge:(es.take len++es')[i]=es'[i-len]'(by omega):=by
     rw[yb (by simp;omega)];simp only[zy,show min len es.length=len by omega]
    have:=t4.2 (i-len) (by omega) j (by rw[<-hge];exact hj);rw[Vm]at this;rw[show g.hi n+i*ety.size+j-(g.hi n+len*ety.size)=i*ety.size-len*ety.size+j by omega];simpa only[hge]using this
 ·obtain ⟨z,hzv,hLR,hLA⟩:=Zl (g:=g) (z:=ie.zero) (h:=slH P 6 e) (by rw[het.zero];omega);rw[het.zero]at hLR hLA;obtain⟨c2,rest,r1,r2,r3⟩:=QAU (P:=P) happ o.type (base:=ad) (sLen:=len) (sCap:=c) (olds:=olds) (zv:= #[]) t1 (λw' h=>by rw[het.size];exact t2 w' h) (λw' h=>by rw[het.size];exact s2 w' h) (by omega) (by omega) (by rw[het.bytes];exact hb) hzv;have hrest:rest.size=(c2-(len+es'.length))*ety.size:=by
   rw[r2];simp[Builtin.zeroCells,<-hLR.1,hz]
  have hsz:(olds++news++rest).size=c2*ety.size:=by
   simp only[x9,s3,t3,hrest,<-z2];congr 1;omega
  obtain⟨x1,x2⟩:=hst.inv.fresh (m:=n) (M:=σ.nx) (n:=0) (cp:=c2*ety.size) (arr:=olds++news++rest) (T:=e) (tb:=false) (w':=w.drew.alloc (.cells (olds++news++rest) e)) hmem rfl rfl rfl rfl (z7 _) (by omega);have hbm:(g.fresh n w.heap.size 0 (c2*ety.size) (olds++news++rest)).blk n=w.heap.size:=if_pos rfl;have q1:(g.fresh n w.heap.size 0 (c2*ety.size) (olds++news++rest)).hi n=0:=if_pos rfl;have q2:(g.fresh n w.heap.size 0 (c2*ety.size) (olds++news++rest)).cp n=c2*ety.size:=if_pos rfl;have q3:(g.fresh n w.heap.size 0 (c2*ety.size) (olds++news++rest)).has n=true:=if_pos rfl;have q4:∀o,(g.fresh n w.heap.size 0 (c2*ety.size) (olds++news++rest)).F w.heap.size o=none:=λo=>by
   show(if w.heap.size=w.heap.size then(if o<0 then _ else none)else _)=_;rw[if_pos rfl,if_neg (by omega)]
  have hrow0:Row g.F ety.size (es.take len++es') (olds++news):=by
   rw[hd0]at s4;exact Row.append ⟨s4.1,s4.2⟩ ⟨t4.1,t4.2⟩ (by rw[s3,zy,ud hlen]) t3
  have hrow:Row (g.fresh n w.heap.size 0 (c2*ety.size) (olds++news++rest)).F ety.size (es.take len++es') (olds++news):=hrow0.mono x1.F;generalize g.fresh n w.heap.size 0 (c2*ety.size) (olds++news++rest)=gg at hbm q1 q2 q3 q4 hrow x1 x2;have hm2:(len+es'.length)*ety.size<=c2*ety.size:=zw _ r1;refine hfin (hwp r3) x1 (x2.swap ⟨hsz2,(λh=>by rw[q3]at h;cases h),λ_=>⟨olds++news++rest,?_,by rw[q1,q2];omega,by rw[hlen2,q2];exact hm2,λi hi j hj=>?_,(λo=>by rw[hbm];exact q4 o),(λh=>by cases h),λj hj=>?_⟩⟩ λh=>?_) (.vx _ _ _ _ _ _ r1 ⟨λ_=>by rw[q2,y5],(λh=>by rw[q3]at h;cases h),λ_=>by rw[hbm,q1];simp⟩)
  ·rw [hbm,hid];show(w.heap.push (.cells (olds++news++rest) e (0,0)))[w.heap.size]? =_;rw[xw,if_pos rfl]
  ·have hj':j<ety.size:=by rw[<-hsz2 _ (zm hi)];exact hj
   have hi2:i<len+es'.length:=by rw[<-hlen2];exact hi
   have hmi:i*ety.size+ety.size<=(len+es'.length)*ety.size:=by
    have:(i+1)*ety.size<=(len+es'.length)*ety.size:=zw _ (by omega);rw[z2]at this;omega
   have h1:i*ety.size+j<(olds++news).size:=by simp only[x9,s3,t3,<-z2];omega
   have h2:i*ety.size+j<(olds++news++rest).size:=by rw[x9];omega
   have:=hrow.2 i hi j hj;rw[q1,y5];rw[Array.getD,dif_pos h1]at this;rw[Array.getD,dif_pos h2];have e:(olds++news++rest)[i*ety.size+j]=(olds++news)[i*ety.size+j]:=wg h1;show DR _ _ ((olds++news++rest)[i*ety.size+j]);rw[e];exact this
  ·rw [q1,y5];rw[q2]at hj;have hj2:j<(olds++news++rest).size:=by rw[hsz];exact hj
   by_cases hj3:j<(olds++news).size
   ·rw [Array.getD,dif_pos hj2];have e:(olds++news++rest)[j]=(olds++news)[j]:=wg hj3;have:=QB6 hrow0 (by rw[hlen2];simp only[x9,s3,t3,<-z2]) h0 hj3;rw[Array.getD,dif_pos hj3]at this;show((olds++news++rest)[j]).oneCell'=true;rw[e];exact this
   ·have hj4:j-(olds++news).size<rest.size:=by rw[x9]at hj2;omega
    have e:(olds++news++rest)[j]=rest[j-(olds++news).size]:=ki (by omega);rw[Array.getD,dif_pos hj2];show((olds++news++rest)[j]).oneCell'=true;rw[e];exact QIR r2 (λk hk=>(hLR.2 k hk).one) hLR.1 (by rw[hz];exact h0) _ hj4
  ·unfold On;rw[QC,if_pos rfl];exact q3
theorem QFr{ats:Array TypeId}{len:Nat}(hti:QU P ti)(hop:o.op= .call ⟨.builtin .append,#[x,y],ats⟩)(hd:o.dst=some d)(hdN:d<N)(he:X3 ti ats=some ety)(hb:ety.bytes<=65536)(h0:0<ety.size)(hz:ety.zero.length=ety.size)
  (hx:ρ σ.sl x=some (.vx ety.size n 0 len)) (ht:∀(κ:Ctx) (g:Gh) (a:Act) (w:World),St κ N g σ a w->X7 P g w ety.size es' (a.eval y)) (hm:look n σ.mem=some (.vec (Q2 ti ats) ety.size es fl)) (hlen:len<=es.length) (hle:len+es'.length<=1073741824)
  (hK:K ⟨(d,.vx ety.size n 0 (len+es'.length))::XJ n σ.sl,(n,.vec (Q2 ti ats) ety.size (es.take len++es') false)::ZJ n σ.mem,σ.nx⟩):Zz P N o σ K:=
 λκ g a w hst next Q hn=>QFq hst hti hop hd hdN he hb h0 hz (ρ_ok hst.sl hx) (ht κ g a w hst) hm hlen hle hK next Q hn
theorem QL7{tt:Nat}(hop:o.op= .assign (.const (.slice none 0 0)))(hd:o.dst=some d)(hdN:d<N)(hK:K ⟨(d,.vx sz σ.nx 0 0)::σ.sl,(σ.nx,.vec tt sz [] false)::σ.mem,σ.nx+1⟩):Zz P N o σ K:=by
 intro κ g a w hst next Q hn
 have hmem:∀n ob,look n σ.mem=some ob->n<σ.nx/\ob.lt σ.nx=true:=λn ob h=>S.ok_mem hst.ok h;have hr:(execOp a.eval o).run P w= .ok (.value (.slice none 0 0)) w:=by simp only[execOp,hop,Act.eval,zq]
 let g':Gh:= {g with has:=λn=>if n=σ.nx then false else g.has n,hi:=λn=>if n=σ.nx then 0 else g.hi n}
 have he:Ext σ.nx g g':=⟨λ_ _ _ h=>h,λ_ _=>rfl,λn hn=>if_neg (by omega),λ_ _=>rfl,λn hn=>if_neg (by omega)⟩;have hi':Inv κ g' σ.mem w:=hst.inv.grow hmem he (zt _) (λ_ _=>rfl) (λb o v h=> .inl h) (λb o v h=>hst.inv.frz b o v h) rfl rfl rfl;have hlook:∀n,look n ((σ.nx,Ob.vec tt sz [] false)::σ.mem)=if n=σ.nx then some (.vec tt sz [] false)else look n σ.mem:=λn=>QC _ _ _ _
 have hno:¬On g' ((σ.nx,.vec tt sz [] false)::σ.mem) σ.nx:=by
  unfold On;rw[hlook,if_pos rfl];show¬(if σ.nx=σ.nx then false else g.has σ.nx)=true;rw[if_pos rfl];simp
 have on:∀n,On g' ((σ.nx,.vec tt sz [] false)::σ.mem) n->On g' σ.mem n:=λn h=>by
  by_cases hn:n=σ.nx
  ·subst hn;exact(hno h).elim
  ·unfold On at h⊢;rw[hlook,if_neg hn]at h;exact h
 refine Qc hr (hn g' _ _ _ hK ?_);rw[hd];refine hst.put hdN he ⟨hi'.frz,λn ob hn=>?_,λn m hnm h h'=>hi'.inj n m hnm (on n h) (on m h'),hi'.size,hi'.pres,λn h=>hi'.own n (on n h),hi'.f0,hi'.fnew,hi'.os,hi'.tape,hi'.output,hi'.dfr⟩ (.vx _ _ _ _ _ _ (zt _) ⟨λh=>?_,λ_=>⟨rfl,rfl⟩,λh=>absurd h (by omega)⟩) ?_
 rotate_left
 ·have:(if σ.nx=σ.nx then false else g.has σ.nx)=true:=h;rw[if_pos rfl]at this;cases this
 rotate_left
 ·rw [hlook]at hn;by_cases hnn:n=σ.nx
  ·subst hnn;rw[if_pos rfl]at hn;obtain rfl:=za hn;refine⟨(λx hx=>by cases hx),(λ_=>rfl),λhh=>?_⟩;have:(if σ.nx=σ.nx then false else g.has σ.nx)=true:=hh;rw[if_pos rfl]at this;cases this
  ·rw [if_neg hnn]at hn;exact hi'.obs n ob hn
 ·refine S.ok_cons hst.ok (y3 _) (by simp[AV.lt,AV.lt2,AV.lt1,AV.lt0]) λp hp=>?_;rcases zi.1 hp with rfl|hp
  ·exact ⟨y6 _,rfl⟩
  ·have:=S.ok_memAll hst.ok p hp;exact⟨by omega,Ob.lt_mono this.2 (y3 _)⟩
theorem St.newVec(hst:St κ N g σ a w)(tt sz:Nat):∃g',St κ N g' ⟨σ.sl,(σ.nx,.vec tt sz [] false)::σ.mem,σ.nx+1⟩ a w/\g'.has σ.nx=false/\Ext σ.nx g g':=by
 have hmem:∀n ob,look n σ.mem=some ob->n<σ.nx/\ob.lt σ.nx=true:=λn ob h=>S.ok_mem hst.ok h;let g':Gh:= {g with has:=λn=>if n=σ.nx then false else g.has n,hi:=λn=>if n=σ.nx then 0 else g.hi n}
 have he:Ext σ.nx g g':=⟨λ_ _ _ h=>h,λ_ _=>rfl,λn hn=>if_neg (by omega),λ_ _=>rfl,λn hn=>if_neg (by omega)⟩;have hi':Inv κ g' σ.mem w:=hst.inv.grow hmem he (zt _) (λ_ _=>rfl) (λb o v h=> .inl h) (λb o v h=>hst.inv.frz b o v h) rfl rfl rfl;have hlook:∀n,look n ((σ.nx,Ob.vec tt sz [] false)::σ.mem)=if n=σ.nx then some (.vec tt sz [] false)else look n σ.mem:=λn=>QC _ _ _ _
 have hno:¬On g' ((σ.nx,.vec tt sz [] false)::σ.mem) σ.nx:=by
  unfold On;rw[hlook,if_pos rfl];show¬(if σ.nx=σ.nx then false else g.has σ.nx)=true;rw[if_pos rfl];simp
 have on:∀n,On g' ((σ.nx,.vec tt sz [] false)::σ.mem) n->On g' σ.mem n:=λn h=>by
  by_cases hn:n=σ.nx
  ·subst hn;exact(hno h).elim
  ·unfold On at h⊢;rw[hlook,if_neg hn]at h;exact h
 refine⟨g',⟨hst.size,hst.defers,λk x hk=>(hst.sl k x hk).ext he ((S.ok_iff.1 hst.ok).1 _ (Qb hk)),⟨hi'.frz,λn ob hn=>?_,λn m hnm h h'=>hi'.inj n m hnm (on n h) (on m h'),hi'.size,hi'.pres,λn h=>hi'.own n (on n h),hi'.f0,hi'.fnew,hi'.os,hi'.tape,hi'.output,hi'.dfr⟩,?_⟩,if_pos rfl,he⟩
 ·rw [hlook]at hn;by_cases hnn:n=σ.nx
  ·subst hnn;rw[if_pos rfl]at hn;obtain rfl:=za hn;refine⟨(λx hx=>by cases hx),(λ_=>rfl),λhh=>?_⟩;have:(if σ.nx=σ.nx then false else g.has σ.nx)=true:=hh;rw[if_pos rfl]at this;cases this
  ·rw [if_neg hnn]at hn;exact hi'.obs n ob hn
 ·rw [S.ok_iff];refine⟨λp hp=>AV.lt_mono ((S.ok_iff.1 hst.ok).1 p hp) (y3 _),λp hp=>?_⟩;rcases zi.1 hp with rfl|hp
  ·exact ⟨y6 _,rfl⟩
  ·have:=S.ok_memAll hst.ok p hp;exact⟨wm this.1,Ob.lt_mono this.2 (y3 _)⟩
theorem QFs{ats:Array TypeId}(hti:QU P ti)(hop:o.op= .call ⟨.builtin .append,#[x,y],ats⟩)(hd:o.dst=some d)(hdN:d<N)(he:X3 ti ats=some ety)(hb:ety.bytes<=65536)(h0:0<ety.size)(hz:ety.zero.length=ety.size)
  (hx:∀(κ:Ctx) (g:Gh) (a:Act) (w:World),St κ N g σ a w->∃ad,a.eval x= .slice ad 0 0) (ht:∀(κ:Ctx) (g:Gh) (a:Act) (w:World),St κ N g σ a w->X7 P g w ety.size es' (a.eval y)) (hle:es'.length<=1073741824)
  (hK:K ⟨(d,.vx ety.size σ.nx 0 es'.length)::σ.sl,(σ.nx,.vec (Q2 ti ats) ety.size es' false)::σ.mem,σ.nx+1⟩):Zz P N o σ K:=by
 intro κ g a w hst;obtain⟨ad,hxe⟩:=hx κ g a w hst;obtain⟨g',hst',hh,hE⟩:=hst.newVec (Q2 ti ats) ety.size;obtain⟨t1,cs,t2,t3,t4,t5⟩:=ht κ g a w hst;have hmf:ZJ σ.nx ((σ.nx,Ob.vec (Q2 ti ats) ety.size [] false)::σ.mem)=(σ.nx,.vec (Q2 ti ats) ety.size [] false)::σ.mem:=by
  show(σ.nx,Ob.down σ.nx (Ob.vec (Q2 ti ats) ety.size [] false))::ZJ σ.nx σ.mem=_;rw[Zo λp hp=>(S.ok_memAll hst.ok p hp).2];rfl
 have hsf:XJ σ.nx σ.sl=σ.sl:=Zd (S.ok_iff.1 hst.ok).1;refine λnext Q hn=>QFq (K:=λσ'=>K σ'\/σ'=⟨(d,.vx ety.size σ.nx 0 (0+es'.length))::σ.sl,(σ.nx,.vec (Q2 ti ats) ety.size es' false)::(σ.nx,.vec (Q2 ti ats) ety.size [] false)::σ.mem,σ.nx+1⟩) hst' hti hop hd hdN he hb h0 hz (n:=σ.nx) (len:=0) (es:=[]) (by rw[hxe];exact .vx _ _ _ _ _ _ (zt _) ⟨(λh=>by rw[hh]at h;cases h),λ_=>⟨rfl,rfl⟩,λh=>absurd h (by omega)⟩) ⟨t1,cs,t2,t3,t4,λi hi j hj=>(t5 i hi j hj).mono hE.F⟩ (by rw[QC,if_pos rfl]) (z7 _) (by omega) (.inr ?_) next Q λg2 σ2 a2 w2 hk2 hst2=>?_
 ·simp only[hmf,hsf,qc,xf]
 ·rcases hk2 with hk2|rfl
  ·exact hn g2 σ2 a2 w2 hk2 hst2
  ·refine hn g2 _ a2 w2 hK ⟨hst2.size,hst2.defers,?_,?_,?_⟩
   ·have:=hst2.sl;rw[y5]at this;exact this
   ·exact hst2.inv.unshadow
   ·have hok:=hst2.ok;rw[S.ok_iff]at hok⊢;refine⟨λp hp=>?_,λp hp=>?_⟩
    ·rw [y5]at hok;exact hok.1 p hp
    ·rcases zi.1 hp with rfl|hp
     ·exact hok.2 _ zo
     ·exact hok.2 p (zk _ (zk _ hp))
end
theorem QIS{α:Type}{x:α}{l:List (Nat×α)}(h:look n l=some x)(k:Nat):look k ((n,x)::l)=look k l:=by
 rw[QC];by_cases hk:k=n
 ·subst hk;rw[if_pos rfl,h]
 ·rw [if_neg hk]
theorem Inv.dup(hi:Inv κ g mem w)(hm:look n mem=some o):Inv κ g ((n,o)::mem) w:=by
 have on:∀m,On g ((n,o)::mem) m->On g mem m:=λm h=>by
  unfold On at h⊢;rw[QIS hm]at h;exact h
 exact⟨hi.frz,λm ob h=>hi.obs m ob (by rw[<-QIS hm];exact h),λm m' hmm h h'=>hi.inj m m' hmm (on m h) (on m' h'),hi.size,hi.pres,λm h=>hi.own m (on m h),hi.f0,hi.fnew,hi.os,hi.tape,hi.output,hi.dfr⟩
theorem Ext.rfl':Ext m g g:=⟨λ_ _ _ h=>h,λ_ _=>rfl,λ_ _=>rfl,λ_ _=>rfl,λ_ _=>rfl⟩
def QGr(P:Program)(g:Gh)(w:World)(sz len:Nat)(es:List (List D))(u:Value):Prop:=
 ∃L,(Builtin.lenOf u).run P w= .ok L w/\Nat.min L len=es.length/\∃cs:Array Value,(∀w',w'.heap=w.heap->(Builtin.firstCells sz es.length u).run P w'= .ok cs w')/\cs.size=es.length*sz/\(∀i (h:i<es.length),es[i].length=sz)/\∀i (h:i<es.length) j (hj:j<es[i].length),DR g.F es[i][j] (cs.getD (i*sz+j) undef)
theorem X7.copy{len:Nat}(h:X7 P g w sz es u)(hl:es.length<=len):QGr P g w sz len es u:=
 ⟨_,h.1,ud hl,h.2⟩
theorem QQN{len dl:Nat}(hv:ZM g w n t sz es fl)(h:AVR g (.vx sz n i len) u)(hle:i+len<=es.length)(hq:Nat.min len dl=q):QGr P g w sz dl ((es.drop i).take q) u:=by
 have hql:q<=len:=by rw[<-hq];exact Nat.min_le_left len dl
 cases h with|vx _ _ _ _ ad c hc had=>?_
 have hl:((es.drop i).take q).length=q:=by simp;omega
 refine⟨len,by simp[Builtin.lenOf],by rw[hl,hq],?_⟩;obtain⟨_,cs,k1,k2⟩:=QAV (P:=P) (len:=q) (u:= .slice ad q c) hv (.vx _ _ _ _ _ _ (by omega) had) (by omega);refine⟨cs,λw' hw'=>?_,k2⟩;have:=k1 w' hw';cases ad<;>simpa [Builtin.firstCells]using this
variable {kk:IntKind}
section
variable {P:Program} {ti:Nat->Option Ty} {N:Nat} {o:Oper} {σ:S} {K:S->Prop}
theorem QOO{ats:Array TypeId}{tt e len:Nat}(hti:QU P ti)(hop:o.op= .call ⟨.builtin .cap,#[x],ats⟩)(hd:o.dst=some d)(hdN:d<N)(ha:ats[0]? =some tt)(ht:ti tt=some ty)(hk:ty.kd= .slice e)
  (hx:ρ σ.sl x=some (.vx sz n 0 len)) (hm:look n σ.mem=some (.vec t sz es fl)) (h0:0<sz)
  (hK:∀ext:List (List D),(∀x∈ext,x.length=sz)->(fl=true->ext=[])->K ⟨(d,.d (.it .i64 (es.length+ext.length:Nat)))::σ.sl,(n,.vec t sz (es++ext) true)::σ.mem,σ.nx⟩):Zz P N o σ K:=by
 obtain⟨u,inf,ht⟩:=QE (hti _ _ ht);obtain rfl:=Q3 ht hk;intro κ g a w hst next Q hn
 have hxv:=ρ_ok hst.sl hx;generalize hu:a.eval x=q at hxv;cases hxv with|vx _ _ _ _ ad c hc had=>?_
 have hr:(execOp a.eval o).run P w= .ok (.value (goInt c)) w:=by
  rw[QQ hop];simp[builtin,Builtin.cap_,hu,ha,run_underlying ht.und,goInt]
 have hvec:ZM g w n t sz es fl:=hst.inv.obs n _ hm;have hdup:=hst.inv.dup hm;have hnx:=(S.ok_mem hst.ok hm).1
 suffices hs:∃ext:List (List D),(∀x∈ext,x.length=sz)/\(fl=true->ext=[])/\c=es.length+ext.length/\ZM g w n t sz (es++ext) true by
  obtain⟨ext,q1,q2,q3,q4⟩:=hs;refine Qc hr (hn g _ _ _ (hK ext q1 q2) ?_);rw[hd,q3];refine hst.put hdN Ext.rfl' (hdup.swap q4 λh=>?_) (.d _ _ (.it _ _)) (S.ok_cons hst.ok (zt _) rfl λp hp=>?_)
  ·unfold On at h⊢;rw[QC,if_pos rfl]at h⊢;exact h
  ·rcases zi.1 hp with rfl|hp
   ·exact ⟨hnx,rfl⟩
   ·exact S.ok_memAll hst.ok p hp
 obtain⟨v1,v2,v3⟩:=hvec;cases hh:g.has n with
 |false=>
  have he:=v2 hh;subst he;have hc0:=(had.2.1 hh).2;exact⟨[],(λx hx=>by cases hx),λ_=>rfl,hc0,(λx hx=>by cases hx),λ_=>rfl,λh=>by rw[hh]at h;cases h⟩
 |true=>
  obtain⟨arr,e1,e2,e3,e4,e5,e6,e7⟩:=v3 hh;have hcp:=had.1 hh;rw[y5]at hcp;have hle:es.length<=c:=by rw[<-hcp]at e3;exact qy e3 h0
  refine⟨(List.range (c-es.length)).map λq=>(List.range sz).map λj=>D.ot (arr.getD (g.hi n+(es.length+q)*sz+j) undef),λx hx=>?_,λhf=>?_,by simp;omega,λx hx=>?_,(λh=>by rw[hh]at h;cases h),λ_=>⟨arr,e1,e2,?_,λi hi j hj=>?_,e5,λ_=>?_,e7⟩⟩
  ·obtain ⟨q,_,rfl⟩:=yf.1 hx;simp
  ·have:=e6 hf;rw[<-hcp]at this;have:es.length=c:=qz h0 this;simp[this]
  ·rcases yd.1 hx with h|h
   ·exact v1 x h
   ·obtain ⟨q,_,rfl⟩:=yf.1 h;simp
  ·rw [<-hcp];refine zw _ ?_;simp;omega
  ·by_cases hil:i<es.length
   ·have hge:(es++(List.range (c-es.length)).map λq=>(List.range sz).map λj=>D.ot (arr.getD (g.hi n+(es.length+q)*sz+j) undef))[i]=es[i]:=zx hil;have:=e4 i hil j (by rw[<-hge];exact hj);simpa only[hge]using this
   ·have hi':i<c:=by simp at hi;omega
    have hge:(es++(List.range (c-es.length)).map λq=>(List.range sz).map λj=>D.ot (arr.getD (g.hi n+(es.length+q)*sz+j) undef))[i]=(List.range sz).map λj=>D.ot (arr.getD (g.hi n+i*sz+j) undef):=by
     rw[yb (by omega)];simp only[z1,x5];rw[show es.length+(i-es.length)=i by omega]
    have hjs:j<sz:=by have:=hj;rw[hge]at this;simpa using this
    have hb:i*sz+sz<=c*sz:=by
     have:(i+1)*sz<=c*sz:=zw _ (by omega);rw[z2]at this;omega
    have h7:=e7 (i*sz+j) (by omega);rw[<-wl]at h7;simp only[hge,z1,x5];exact .ot _ h7
  ·rw [<-hcp];congr 1;simp;omega
theorem QFt{ats:Array TypeId}{len:Nat}(hti:QU P ti)(hop:o.op= .call ⟨.builtin .copy,#[x,y],ats⟩)(hd:o.dst=some d)(hdN:d<N)(he:X3 ti ats=some ety)(h0:0<ety.size)
  (hx:ρ σ.sl x=some (.vx ety.size n i len)) (hsrc:∀(κ:Ctx) (g:Gh) (a:Act) (w:World),St κ N g σ a w->QGr P g w ety.size len es' (a.eval y)) (hm:look n σ.mem=some (.vec t ety.size es fl)) (hle:i+len<=es.length)
  (hK:K ⟨(d,.d (.it .i64 (es'.length:Nat)))::σ.sl,(n,.vec t ety.size (es.take i++es'++es.drop (i+es'.length)) fl)::σ.mem,σ.nx⟩):Zz P N o σ K:=by
 obtain⟨e,ue,ie,het,happ,hid⟩:=QAs hti he;obtain⟨tt,tt',dd,a0,a1,a2,a3,a4⟩:=happ.ex;intro κ g A w hst next Q hn
 have hvec:ZM g w n t ety.size es fl:=hst.inv.obs n _ hm;have hdup:=hst.inv.dup hm;have hnx:=(S.ok_mem hst.ok hm).1;obtain⟨L,l1,l2,cs,c1,c2,c3,c4⟩:=hsrc κ g A w hst;have hml:es'.length<=len:=by rw[<-l2];exact Nat.min_le_right L len
 have hxv:=ρ_ok hst.sl hx;generalize hu:A.eval x=q at hxv;cases hxv with|vx _ _ _ _ ad c hc had=>?_
 obtain⟨v1,v2,v3⟩:=hvec;have hcopy:∀w',(match ad with|some a=>storeCells a cs.toList|none=>pure ()).run P w= .ok () w'->(execOp A.eval o).run P w= .ok (.value (goInt es'.length)) w':=λw' hs=>by
  rw[QQ hop];have g0:(#[Value.slice ad len c,A.eval y]:Array Value)[0]? =some (.slice ad len c):=rfl;have g1:(#[Value.slice ad len c,A.eval y]:Array Value)[1]? =some (A.eval y):=rfl;simp only[builtin,uo,w8,uw,hu,Builtin.copy_,a0,g0,g1,zp,run_underlying a2,zg,l1,l2,QV het.info,het.size,c1 w rfl,zq];cases ad with
  |none=>
   simp only[zq,ja,true_and]at hs;subst hs;simp only[zq,zg,zp]
  |some a=>
   simp only at hs;simp only[hs,zp,zg,zq]
 have hsz2:∀z∈es.take i++es'++es.drop (i+es'.length),z.length=ety.size:=λz hz=>by
  rcases yd.1 hz with h|h
  ·rcases yd.1 h with h|h
   ·exact v1 _ (xg h)
   ·obtain ⟨j,hj,rfl⟩:=yy.1 h;exact c3 j hj
  ·exact v1 _ (xx h)
 have hlen2:(es.take i++es'++es.drop (i+es'.length)).length=es.length:=by simp;omega
 have hfin:∀ {w':World},(execOp A.eval o).run P w= .ok (.value (goInt es'.length)) w'->Inv κ g ((n,.vec t ety.size (es.take i++es'++es.drop (i+es'.length)) fl)::σ.mem) w'->o.wpIn (wd κ.rd) 0 P A w next Q:=λh1 h2=>by
  refine Qc h1 (hn g _ _ _ hK ?_);rw[hd];refine hst.put hdN Ext.rfl' h2 (.d _ _ (.it _ _)) (S.ok_cons hst.ok (zt _) rfl λp hp=>?_);rcases zi.1 hp with rfl|hp
  ·exact ⟨hnx,rfl⟩
  ·exact S.ok_memAll hst.ok p hp
 by_cases hm0:es'=[]
 ·subst hm0;have hcs:cs= #[]:=ux (by simpa using c2);subst hcs;refine hfin (hcopy w (by cases ad<;>rfl)) ?_;have:es.take i++[]++es.drop (i+([]:List (List D)).length)=es:=by simp
  rw[this];exact hdup
 ·have hpos:0<es'.length:=jp.2 hm0;obtain⟨hh,rfl,hcp⟩:=had.pos (by omega);obtain⟨arr,e1,e2,e3,e4,e5,e6,e7⟩:=v3 hh;have hb:(i+es'.length)*ety.size<=g.cp n:=xy (zw _ (by omega)) e3;rw[z2]at hb;have hone:∀v∈cs.toList,v.oneCell'=true:=λv hv=>by
   obtain⟨q,hq,rfl⟩:=yy.1 hv;have hq':q<cs.size:=by simpa using hq
   have:=QB6 (F:=g.F) ⟨c3,c4⟩ c2 h0 hq';simpa [Array.getD,hq']using this
  have hst1:=run_storeCells_at P (g.blk n) (g.hi n+i*ety.size) t cs.toList 0 arr w e1 (by simp;omega) hone;simp only[x6,wq]at hst1;refine hfin (hcopy _ hst1) (hdup.vecWrite hh e1 (by simp;omega) hsz2 (by rw[hlen2];exact e3) (λq hq j hj=>?_) (λhf=>by rw[hlen2];exact e6 hf) λj hj=>?_)
  ·have hj':j<ety.size:=by rw[<-hsz2 _ (zm hq)];exact hj
   have hq2:q<es.length:=by rw[<-hlen2];exact hq
   have hmq:q*ety.size+ety.size<=es.length*ety.size:=by
    have:(q+1)*ety.size<=es.length*ety.size:=zw _ (by omega);rw[z2]at this;omega
   rw[ZC _ _ _ _ (by omega) (by omega)];by_cases hq1:q<i
   ·have hmi:q*ety.size+ety.size<=i*ety.size:=by
     have:(q+1)*ety.size<=i*ety.size:=zw _ (by omega);rw[z2]at this;omega
    rw[if_neg (by omega)];have hge:(es.take i++es'++es.drop (i+es'.length))[q]=es[q]:=by
     rw[zx (by simp;omega),zx (by simp;omega),xl]
    have:=e4 q hq2 j (by rw[<-hge];exact hj);simpa only[hge]using this
   ·have hmi:i*ety.size<=q*ety.size:=zw _ (by omega);by_cases hq3:q<i+es'.length
    ·have hmm:q*ety.size+ety.size<=i*ety.size+es'.length*ety.size:=by
      have:(q+1)*ety.size<=(i+es'.length)*ety.size:=zw _ (by omega);rw[z2,z2]at this;omega
     rw[if_pos (by rw[c2];omega)];have hge:(es.take i++es'++es.drop (i+es'.length))[q]=es'[q-i]'(by omega):=by
      rw[zx (by simp;omega),yb (by simp;omega)];simp only[zy,show min i es.length=i by omega]
     have:=c4 (q-i) (by omega) j (by rw[<-hge];exact hj);rw[Vm]at this;rw[show g.hi n+q*ety.size+j-(g.hi n+i*ety.size)=q*ety.size-i*ety.size+j by omega];simpa only[hge]using this
    ·have hmm:i*ety.size+es'.length*ety.size<=q*ety.size:=by
      rw[<-z2];exact zw _ (by omega)
     rw[if_neg (by rw[c2];omega)];have hge:(es.take i++es'++es.drop (i+es'.length))[q]=es[q]:=by
      rw[yb (by simp;omega),xm];have:i+es'.length+(q-(es.take i++es').length)=q:=by simp;omega
      simp only[this]
     have:=e4 q hq2 j (by rw[<-hge];exact hj);simpa only[hge]using this
  ·have:g.hi n+j<arr.size:=by omega
   rw[ZC _ _ _ _ (by omega) (by omega)];by_cases hin:g.hi n+i*ety.size<=g.hi n+j/\g.hi n+j<g.hi n+i*ety.size+cs.size
   ·rw [if_pos hin];have hq:g.hi n+j-(g.hi n+i*ety.size)<cs.size:=by omega
    rw[Array.getD,dif_pos hq];exact hone _ (by simp)
   ·rw [if_neg hin];exact e7 j hj
theorem QCe{ats:Array TypeId}{e:Nat}{k:IntKind}{i:TypeInfo}(e0:ats[0]? =some t)(e1:ats[1]? =some t')(e2:P.underlying t=some (.slice e))(e3:P.underlying t'=some (.int kk))(hi:P.info? e=some i)(ty:TypeId)
  (hold:∀w',w'.heap=w.heap->(Builtin.firstCells i.size sLen (.slice base sLen sCap)).run P w'= .ok olds w') (hn:0<n) (hs:0<i.size) (hle:sCap<sLen+n) (hlim:sLen+n<=1073741824) (hb:i.bytes<=65536) (hz:i.zero=some z):
  ∃cap rest,sLen+n<=cap/\rest=Builtin.zeroCells z.cells (cap-(sLen+n))/\(Builtin.append_ ats ty #[.slice base sLen sCap,.int k n]).run P w= .ok (.slice (some ⟨w.heap.size,0,none⟩) (sLen+n) cap) (w.drew.alloc (.cells (olds++Builtin.zeroCells z.cells n++rest) e)):=by
 have g0:(#[Value.slice base sLen sCap,.int k n]:Array Value)[0]? =some (.slice base sLen sCap):=rfl;have g1:(#[Value.slice base sLen sCap,.int k n]:Array Value)[1]? =some (.int k n):=rfl;have hmax:IntKind.i64.max=9223372036854775807:=by decide
 have hw:IntKind.i64.wrap (n:Int)=n:=by rw[IntKind.wrap_i64];omega
 have hneg:¬((n:Int)<0):=by omega
 have hns:¬(n*i.size=0):=Nat.mul_ne_zero (by omega) (by omega);have h48:¬((n:Int)*(i.bytes:Int)>2 ^ 48):=by
  have h1:n*i.bytes<=1073741824*65536:=W6 (by omega) hb;rw[<-Int.natCast_mul];omega
 have c1:¬(((sLen+n:Nat):Int)>IntKind.i64.max/\(true=true\/i.bytes=0)):=by rw[hmax];omega
 have c2:¬Builtin.nextslicecap (sLen+n) sCap*i.bytes>2 ^ 48:=by
  have h1:=QK0 (sLen+n) sCap hle;have h2:Builtin.nextslicecap (sLen+n) sCap*i.bytes<=(2*(sLen+n)+192)*65536:=W6 h1 hb;have h3:(2*(sLen+n)+192)*65536<=2 ^ 48:=by omega
  omega
 refine⟨(Question.appendCap (sLen+n) sCap e).cut (w.tape w.drawn (.appendCap (sLen+n) sCap e)),_,ji _ _,rfl,?_⟩;have hf:(Question.appendCap (sLen+n) sCap e).forced=false:=rfl;have c1':¬(((sLen+n:Nat):Int)>IntKind.i64.max):=by rw[hmax];omega
 simp only[Builtin.append_,e0,e1,g0,g1,zp,run_underlying e2,run_underlying e3,zg,QV hi,zq,if_true,asInt,asIntOf,hw,if_neg hneg,ZE hi,if_neg h48,kj,if_neg (Nat.not_le.2 hle),ww,c1,c2,c1',false_and,if_false,run_choose,hf,run_askRoom,vw,yw,World.drew_eq];rw[hold w.drew rfl];simp only[zg,if_neg hns,zeroValue,zp,ZE hi,hz,zq,newRow,run_newObj,World.size_drew];rfl
theorem QEc{z:Array Value}{l:List D}(h:LR F l z)(h0:0<l.length)(m:Nat):Row F l.length (List.replicate m l) (Builtin.zeroCells z m):=by
 refine⟨λi hi=>by simp,λi hi j hj=>?_⟩;simp only[W0]at hj⊢;simp only[kf]at hi;have hz:z.size=l.length:=h.1.symm;have hb:i*z.size+j<m*z.size:=by
  have:(i+1)*z.size<=m*z.size:=zw _ (by omega);rw[z2]at this;omega
 have hlt:i*l.length+j<(Builtin.zeroCells z m).size:=by rw[<-hz];simp[Builtin.zeroCells];exact hb
 rw[Array.getD,dif_pos hlt];show DR F l[j] ((Builtin.zeroCells z m)[i*l.length+j]);simp only[Builtin.zeroCells,Wc,qn];have hm:(i*l.length+j) % z.size=j:=by rw[hz,uj,Nat.mul_add_mod,Wm hj]
 rw[hm,getElem!_pos z j (by omega)];have:=h.2 j hj
 rwa [Array.getD,dif_pos (by omega)]at this
theorem QL8{ats:Array TypeId}{len e tt t1:Nat}{k:IntKind}{ty1:Ty}(hti:QU P ti)(hop:o.op= .call ⟨.builtin .append,#[x,y],ats⟩)(hd:o.dst=some d)(hdN:d<N)
  (a0:ats[0]? =some tt) (ht:ti tt=some ty) (hk:ty.kd= .slice e) (he:ti e=some ety) (a1:ats[1]? =some t1) (ht1:ti t1=some ty1) (hk1:ty1.kd= .int kk) (hb:ety.bytes<=65536) (h0:0<ety.size) (hz:ety.zero.length=ety.size)
  (hx:ρ σ.sl x=some (.vx ety.size n 0 len)) (hy:ρ σ.sl y=some (.d (.it k (m:Nat)))) (hm:look n σ.mem=some (.vec t ety.size es true)) (hlen:len<=es.length) (hgt:es.length<len+m) (hle:len+m<=1073741824)
  (hK:K ⟨(d,.vx ety.size σ.nx 0 (len+m))::σ.sl,(σ.nx,.vec e ety.size (es.take len++List.replicate m ety.zero) false)::σ.mem,σ.nx+1⟩):Zz P N o σ K:=by
 obtain⟨u,inf,htt⟩:=QE (hti _ _ ht);obtain rfl:=Q3 htt hk;obtain⟨u1,inf1,htt1⟩:=QE (hti _ _ ht1);obtain rfl:=QAP htt1 hk1;obtain⟨ue,ie,het⟩:=QE (hti _ _ he);intro κ g A w hst next Q hn
 have hvec:ZM g w n t ety.size es true:=hst.inv.obs n _ hm;have hxv:=ρ_ok hst.sl hx;have hyv:=ZI (ρ_ok hst.sl hy);generalize hu:A.eval x=q at hxv;have hcell:=QAV (P:=P) hvec hxv (by omega);cases hxv with|vx _ _ _ _ ad c hc had=>?_
 have hcl:c=es.length:=by
  cases hh:g.has n with
  |false=>rw[hvec.2.1 hh];exact(had.2.1 hh).2
  |true=>
   obtain⟨arr,_,_,_,_,_,e6,_⟩:=hvec.2.2 hh;have h1:=had.1 hh;rw[<-e6 rfl,y5]at h1;exact qz h0 h1
 obtain⟨_,olds,s2,s3,s4⟩:=hcell;have hl:((es.drop 0).take len).length=len:=by simp;omega
 have hd0:(es.drop 0).take len=es.take len:=by simp
 rw[hl]at s2 s3;rw[hd0]at s4;obtain⟨g',hst',hh',hE⟩:=hst.newVec e ety.size;have hmem':∀k ob,look k ((σ.nx,Ob.vec e ety.size [] false)::σ.mem)=some ob->k<σ.nx+1/\ob.lt (σ.nx+1)=true:=λk ob h=>S.ok_mem hst'.ok h;have hmf:ZJ σ.nx ((σ.nx,Ob.vec e ety.size [] false)::σ.mem)=(σ.nx,.vec e ety.size [] false)::σ.mem:=by
  show(σ.nx,Ob.down σ.nx (Ob.vec e ety.size [] false))::ZJ σ.nx σ.mem=_;rw[Zo λp hp=>(S.ok_memAll hst.ok p hp).2];rfl
 have hsf:XJ σ.nx σ.sl=σ.sl:=Zd (S.ok_iff.1 hst.ok).1;obtain⟨z,hzv,hLR,hLA⟩:=Zl (g:=g) (z:=ie.zero) (h:=slH P 6 e) (by rw[het.zero];omega);rw[het.zero]at hLR hLA;have hzs:z.cells.size=ety.size:=hLR.1.symm.trans hz;obtain⟨c2,rest,r1,r2,r3⟩:=QCe (P:=P) (kk:=kk) (k:=k) a0 a1 htt.und htt1.und het.info o.type (base:=ad) (sLen:=len) (sCap:=c) (n:=m) (olds:=olds) (λw' h=>by rw[het.size];exact s2 w' h) (by omega) (by rw[het.size];exact h0) (by omega) hle (by rw[het.bytes];exact hb) hzv;have hrun:(execOp A.eval o).run P w= .ok (.value (.slice (some ⟨w.heap.size,0,none⟩) (len+m) c2)) (w.drew.alloc (.cells (olds++Builtin.zeroCells z.cells m++rest) e)):=by
  rw[QQ hop];simp only[builtin,uo,w8,uw,hu,hyv,zp,r3,zg,zq]
 generalize hnews:Builtin.zeroCells z.cells m=news at r3 hrun;have t3:news.size=m*ety.size:=by rw[<-hnews];simp[Builtin.zeroCells,hzs]
 have trow:Row g.F ety.size (List.replicate m ety.zero) news:=by
  have:=QEc hLR (by omega) m;rw[hz,hnews]at this;exact this
 have hrest:rest.size=(c2-(len+m))*ety.size:=by
  rw[r2];simp[Builtin.zeroCells,hzs]
 have hsz:(olds++news++rest).size=c2*ety.size:=by
  simp only[x9,s3,t3,hrest,<-z2];congr 1;omega
 have hlen2:(es.take len++List.replicate m ety.zero).length=len+m:=by simp;omega
 have hrow0:Row g.F ety.size (es.take len++List.replicate m ety.zero) (olds++news):=
  Row.append ⟨s4.1,s4.2⟩ trow (by rw[s3,zy,ud hlen]) (by rw[t3,kf])
 obtain⟨x1,x2⟩:=hst'.inv.fresh (m:=σ.nx) (M:=σ.nx+1) (n:=0) (cp:=c2*ety.size) (arr:=olds++news++rest) (T:=e) (tb:=false) (w':=w.drew.alloc (.cells (olds++news++rest) e)) hmem' rfl rfl rfl rfl (z7 _) (by omega);rw[hmf]at x2;have hbm:(g'.fresh σ.nx w.heap.size 0 (c2*ety.size) (olds++news++rest)).blk σ.nx=w.heap.size:=if_pos rfl;have q1:(g'.fresh σ.nx w.heap.size 0 (c2*ety.size) (olds++news++rest)).hi σ.nx=0:=if_pos rfl;have q2:(g'.fresh σ.nx w.heap.size 0 (c2*ety.size) (olds++news++rest)).cp σ.nx=c2*ety.size:=if_pos rfl;have q3:(g'.fresh σ.nx w.heap.size 0 (c2*ety.size) (olds++news++rest)).has σ.nx=true:=if_pos rfl;have q4:∀o,(g'.fresh σ.nx w.heap.size 0 (c2*ety.size) (olds++news++rest)).F w.heap.size o=none:=λo=>by
  show(if w.heap.size=w.heap.size then(if o<0 then _ else none)else _)=_;rw[if_pos rfl,if_neg (by omega)]
 have hrow:Row (g'.fresh σ.nx w.heap.size 0 (c2*ety.size) (olds++news++rest)).F ety.size (es.take len++List.replicate m ety.zero) (olds++news):=(hrow0.mono hE.F).mono x1.F;generalize g'.fresh σ.nx w.heap.size 0 (c2*ety.size) (olds++news++rest)=gg at hbm q1 q2 q3 q4 hrow x1 x2;have hm2:(len+m)*ety.size<=c2*ety.size:=zw _ r1;have hvec2:ZM gg (w.drew.alloc (.cells (olds++news++rest) e)) σ.nx e ety.size (es.take len++List.replicate m ety.zero) false:=by
  refine⟨λx hx=>?_,(λh=>by rw[q3]at h;cases h),λ_=>⟨olds++news++rest,?_,by rw[q1,q2];omega,by rw[hlen2,q2];exact hm2,λi hi j hj=>?_,(λo=>by rw[hbm];exact q4 o),(λh=>by cases h),λj hj=>?_⟩⟩
  ·obtain ⟨j,hj,rfl⟩:=yy.1 hx;exact hrow0.1 j hj
  ·rw [hbm];show(w.heap.push (.cells (olds++news++rest) e (0,0)))[w.heap.size]? =_;rw[xw,if_pos rfl]
  ·have hj':j<ety.size:=by rw[<-hrow0.1 i hi];exact hj
   have hi2:i<len+m:=by rw[<-hlen2];exact hi
   have hmi:i*ety.size+ety.size<=(len+m)*ety.size:=by
    have:(i+1)*ety.size<=(len+m)*ety.size:=zw _ (by omega);rw[z2]at this;omega
   have h1:i*ety.size+j<(olds++news).size:=by simp only[x9,s3,t3,<-z2];omega
   have h2:i*ety.size+j<(olds++news++rest).size:=by rw[x9];omega
   have:=hrow.2 i hi j hj;rw[q1,y5];rw[Array.getD,dif_pos h1]at this;rw[Array.getD,dif_pos h2];have e:(olds++news++rest)[i*ety.size+j]=(olds++news)[i*ety.size+j]:=wg h1;show DR _ _ ((olds++news++rest)[i*ety.size+j]);rw[e];exact this
  ·rw [q1,y5];rw[q2]at hj;have hj2:j<(olds++news++rest).size:=by rw[hsz];exact hj
   by_cases hj3:j<(olds++news).size
   ·rw [Array.getD,dif_pos hj2];have e:(olds++news++rest)[j]=(olds++news)[j]:=wg hj3;have:=QB6 hrow0 (by rw[hlen2];simp only[x9,s3,t3,<-z2]) h0 hj3;rw[Array.getD,dif_pos hj3]at this;show((olds++news++rest)[j]).oneCell'=true;rw[e];exact this
   ·have hj4:j-(olds++news).size<rest.size:=by rw[x9]at hj2;omega
    have e:(olds++news++rest)[j]=rest[j-(olds++news).size]:=ki (by omega);rw[Array.getD,dif_pos hj2];show((olds++news++rest)[j]).oneCell'=true;rw[e];exact QIR r2 (λk hk=>(hLR.2 k hk).one) hLR.1 (by rw[hz];exact h0) _ hj4
 refine Qc hrun (hn gg _ _ _ hK ?_);rw[hd];have hput:=hst'.putX (d:=d) (m:=σ.nx) (M:=σ.nx+1) (v:= .vx ety.size σ.nx 0 (len+m)) (u:= .slice (some ⟨w.heap.size,0,none⟩) (len+m) c2) hdN (zt _) x1 (x2.unshadow.swap (o':= .vec e ety.size (es.take len++List.replicate m ety.zero) false) hvec2 λh=>by unfold On;rw[QC,if_pos rfl];exact q3) (.vx _ _ _ _ _ _ r1 ⟨λ_=>by rw[q2,y5],(λh=>by rw[q3]at h;cases h),λ_=>by rw[hbm,q1];simp⟩) (QKu (y6 _)) (λp hp=>by
  rcases zi.1 hp with rfl|hp
  ·exact ⟨y6 _,rfl⟩
  ·have:=S.ok_memAll hst.ok p hp;exact⟨wm this.1,Ob.lt_mono this.2 (y3 _)⟩)
 rw[show XJ σ.nx (S.mk σ.sl ((σ.nx,Ob.vec e ety.size [] false)::σ.mem) (σ.nx+1)).sl=σ.sl from hsf]at hput;exact hput
theorem QIT{e:Nat}{parts:Array (Nat×Operand)}{ps:List (Nat×Nat×List D)}{l:List D}(hti:QU P ti)(hop:o.op= .buildSlice t n parts)(hd:o.dst=some d)(hdN:d<N)(ht:ti t=some ty)(hk:ty.kd= .slice e)(he:ti e=some ety)(hp:Yy (ρ σ.sl) parts.toList=some ps)
  (hz:ety.zero.length=ety.size) (h0:0<ety.size) (hlim:n*ety.size<=16777216) (hpl:ps.all (λp=>Nat.blt p.1 n)=true) (hf:YM (λi=>bif Nat.blt i n then some (i*ety.size,ety.size)else none) (Zx n ety.zero) ps=some l)
  (hK:K ⟨(d,.vx ety.size σ.nx 0 n)::σ.sl,(σ.nx,.vec e ety.size (XP ety.size n l) false)::σ.mem,σ.nx+1⟩):Zz P N o σ K:=by
 intro κ g A w hst next Q hn
 obtain⟨cells,hsz,hLR,hrun⟩:=QAS hti hop ht hk he hp hz h0 hlim hpl hf hst.inv (λx _ v hx=>ρ_ok hst.sl hx);obtain⟨g',hst',hh',hE⟩:=hst.newVec e ety.size;have hmem':∀k ob,look k ((σ.nx,Ob.vec e ety.size [] false)::σ.mem)=some ob->k<σ.nx+1/\ob.lt (σ.nx+1)=true:=λk ob h=>S.ok_mem hst'.ok h;have hmf:ZJ σ.nx ((σ.nx,Ob.vec e ety.size [] false)::σ.mem)=(σ.nx,.vec e ety.size [] false)::σ.mem:=by
  show(σ.nx,Ob.down σ.nx (Ob.vec e ety.size [] false))::ZJ σ.nx σ.mem=_;rw[Zo λp hp=>(S.ok_memAll hst.ok p hp).2];rfl
 have hsf:XJ σ.nx σ.sl=σ.sl:=Zd (S.ok_iff.1 hst.ok).1;obtain⟨x1,x2⟩:=hst'.inv.fresh (m:=σ.nx) (M:=σ.nx+1) (n:=0) (cp:=n*ety.size) (arr:=cells) (T:=e) (tb:=false) (w':=w.alloc (.cells cells e)) hmem' rfl rfl rfl rfl (z7 _) (by omega);rw[hmf]at x2;have hbm:(g'.fresh σ.nx w.heap.size 0 (n*ety.size) cells).blk σ.nx=w.heap.size:=if_pos rfl;have q1:(g'.fresh σ.nx w.heap.size 0 (n*ety.size) cells).hi σ.nx=0:=if_pos rfl;have q2:(g'.fresh σ.nx w.heap.size 0 (n*ety.size) cells).cp σ.nx=n*ety.size:=if_pos rfl;have q3:(g'.fresh σ.nx w.heap.size 0 (n*ety.size) cells).has σ.nx=true:=if_pos rfl;have q4:∀o,(g'.fresh σ.nx w.heap.size 0 (n*ety.size) cells).F w.heap.size o=none:=λo=>by
  show(if w.heap.size=w.heap.size then(if o<0 then _ else none)else _)=_;rw[if_pos rfl,if_neg (by omega)]
 have hl2:∀j (h:j<l.length),DR (g'.fresh σ.nx w.heap.size 0 (n*ety.size) cells).F l[j] (cells.getD j undef):=λj h=>((hLR.2 j h).mono hE.F).mono x1.F;generalize g'.fresh σ.nx w.heap.size 0 (n*ety.size) cells=gg at hbm q1 q2 q3 q4 hl2 x1 x2;have hll:l.length=n*ety.size:=hLR.1.trans hsz;have bnd:∀i j,i<n->j<ety.size->i*ety.size+j<n*ety.size:=λi j hi hj=>by
  have:(i+1)*ety.size<=n*ety.size:=zw _ (by omega);rw[z2]at this;omega
 have hcl:∀i (hi:i<(XP ety.size n l).length),(XP ety.size n l)[i].length=ety.size:=λi hi=>by
  rw[Yp];rw[ZN]at hi;simp only[zy,ym,hll];have:(i+1)*ety.size<=n*ety.size:=zw _ (by omega);rw[z2]at this;omega
 have hvec2:ZM gg (w.alloc (.cells cells e)) σ.nx e ety.size (XP ety.size n l) false:=by
  refine⟨λx hx=>?_,(λh=>by rw[q3]at h;cases h),λ_=>⟨cells,?_,by rw[q1,q2];omega,by rw[ZN,q2];exact zt _,λi hi j hj=>?_,(λo=>by rw[hbm];exact q4 o),(λh=>by cases h),λj hj=>?_⟩⟩
  ·obtain ⟨j,hj,rfl⟩:=yy.1 hx;exact hcl j hj
  ·rw [hbm];show(w.heap.push (.cells cells e (0,0)))[w.heap.size]? =_;rw[xw,if_pos rfl]
  ·have hi':i<n:=by rwa [ZN]at hi
   have hj':j<ety.size:=by rw[<-hcl i hi];exact hj
   have hlt:i*ety.size+j<l.length:=by rw[hll];exact bnd i j hi' hj'
   have e1:(XP ety.size n l)[i][j]=l[i*ety.size+j]:=by
    simp only[Yp,xl,xm]
   rw[q1,y5,e1];exact hl2 _ hlt
  ·rw [q1,y5];rw[q2]at hj;exact(hl2 j (by rw[hll];exact hj)).one
 refine Qc hrun (hn gg _ _ _ hK ?_);rw[hd];have hput:=hst'.putX (d:=d) (m:=σ.nx) (M:=σ.nx+1) (v:= .vx ety.size σ.nx 0 n) (u:= .slice (some ⟨w.heap.size,0,none⟩) n n) hdN (zt _) x1 (x2.unshadow.swap (o':= .vec e ety.size (XP ety.size n l) false) hvec2 λh=>by unfold On;rw[QC,if_pos rfl];exact q3) (.vx _ _ _ _ _ _ (zt _) ⟨λ_=>by rw[q2,y5],(λh=>by rw[q3]at h;cases h),λ_=>by rw[hbm,q1];simp⟩) (QKu (y6 _)) (λp hp=>by
  rcases zi.1 hp with rfl|hp
  ·exact ⟨y6 _,rfl⟩
  ·have:=S.ok_memAll hst.ok p hp;exact⟨wm this.1,Ob.lt_mono this.2 (y3 _)⟩)
 rw[show XJ σ.nx (S.mk σ.sl ((σ.nx,Ob.vec e ety.size [] false)::σ.mem) (σ.nx+1)).sl=σ.sl from hsf]at hput;exact hput
end
section
variable {P:Program} {ti:Nat->Option Ty} {N:Nat} {σ:S} {o:Oper} {K:S->Prop}
theorem QGs{sz:Nat}:∀ {es:List (List D)},(∀x∈es,x.length=sz)->∀(i j:Nat) (h:i<es.length) (hj:j<es[i].length),es.flatten[i*sz+j]? =some es[i][j]
 |[],_,i,j,h,_=>by cases h
 |x::t,hs,i,j,h,hj=>by
  have hx:x.length=sz:=hs x zo;cases i with
  |zero=>
   simp only[wp]at hj;simp only[vy,kr,y5];rw[ko hj];simp
  |succ i=>
   simp only[uh]at hj;have:=QGs (es:=t) (λy hy=>hs y (zk _ hy)) i j (by simpa using h) hj;simp only[vy];rw[um (by rw[hx,z2];omega),hx,show(i+1)*sz+j-sz=i*sz+j by rw[z2];omega,this];simp
theorem QIU:∀ {es:List (List D)},(∀x∈es,x.length=sz)->es.flatten.length=es.length*sz
 |[],_=>by simp
 |x::t,hs=>by
  rw[vy,zu,hs x zo,QIU λy hy=>hs y (zk _ hy),yq,z2];omega
theorem QOP{len:Nat}(hv:Zv κ g w n (.cells size c))(h:AVR g (.ms sz n off len cap) u)(hle:off+len*sz<=size)(hl:es.length=len)(hs:∀x∈es,x.length=sz)
  (he:(c.drop off).take (len*sz)=es.flatten.map AV.d):X7 P g w sz es u:=by
 cases h with|ms _ _ _ _ _ ad had hc=>?_
 refine⟨by simp[Builtin.lenOf,hl],?_⟩;by_cases h0:len=0
 ·subst h0;obtain rfl:=yx.1 hl;refine⟨#[],λw' _=>?_,by simp,(λk h=>by simp at h),(λk h=>by simp at h)⟩;cases ad with
  |none=>simp[Builtin.firstCells]
  |some a=>simp[Builtin.firstCells,loadCells,loadCellsFrom]
 ·obtain rfl:=had (by omega);obtain⟨arr,T,e1,e2,e3,e4,e5,e6⟩:=hv;refine⟨((List.range (len*sz)).map λx=>arr.getD (off+x) undef).toArray,λw' hw'=>?_,by simp[hl],λk hk=>hs _ (zm hk),λk hk j hj=>?_⟩
  ·simp only[Builtin.firstCells,hl];refine run_loadCells _ _ _ _ λx hx=>?_;rw[ZB];have hlt:off+x<arr.size:=by omega
   simp[World.cell?,hw',e1,Array.getD,hlt]
  ·have hjs:j<sz:=by rw[<-hs _ (zm hk)];exact hj
   have hlt:k*sz+j<len*sz:=by
    have:(k+1)*sz<=len*sz:=zw _ (by omega);rw[z2]at this;omega
   rw[X0 (λx=>arr.getD (off+x) undef) _ _ hlt];have h1:((c.drop off).take (len*sz))[k*sz+j]? =some (.d es[k][j]):=by
    rw[he,yv,QGs hs k j hk hj];rfl
   rw[List.getElem?_take_of_lt hlt,vt]at h1;have hlc:off+(k*sz+j)<c.length:=by omega
   have h2:=e5 (off+(k*sz+j)) hlc;rw[zj hlc]at h1;rw[za h1]at h2;cases h2 with|d _ _ hd=>exact hd
theorem QJp{ats:Array TypeId}{len:Nat}(hti:QU P ti)(hop:o.op= .call ⟨.builtin .copy,#[x,y],ats⟩)(hd:o.dst=some d)(hdN:d<N)(he:X3 ti ats=some ety)(h0:0<ety.size)
  (hx:ρ σ.sl x=some (.ms ety.size n off len cap)) (hsrc:∀(κ:Ctx) (g:Gh) (a:Act) (w:World),St κ N g σ a w->QGr P g w ety.size len es' (a.eval y)) (hm:look n σ.mem=some (.cells size c)) (hle:off+len*ety.size<=size)
  (hK:K ⟨(d,.d (.it .i64 (es'.length:Nat)))::σ.sl,(n,.cells size (c.take off++es'.flatten.map AV.d++c.drop (off+es'.length*ety.size)))::σ.mem,σ.nx⟩):Zz P N o σ K:=by
 obtain⟨e,ue,ie,het,happ,hid⟩:=QAs hti he;obtain⟨tt,tt',dd,a0,a1,a2,a3,a4⟩:=happ.ex;intro κ g A w hst next Q hn
 have hob:=hst.inv.obs n _ hm;have hlt:=S.ok_mem hst.ok hm;obtain⟨L,l1,l2,cs,c1,c2,c3,c4⟩:=hsrc κ g A w hst;have hml:es'.length<=len:=by rw[<-l2];exact Nat.min_le_right L len
 have hfl:es'.flatten.length=es'.length*ety.size:=QIU λz hz=>by
  obtain⟨j,hj,rfl⟩:=yy.1 hz;exact c3 j hj
 have hmm:es'.length*ety.size<=len*ety.size:=zw _ hml;have hxv:=ρ_ok hst.sl hx;generalize hu:A.eval x=q at hxv;cases hxv with|ms _ _ _ _ _ ad had hc=>?_
 obtain⟨arr,T,e1,e2,e3,e4,e5,e6⟩:=hob;have hcopy:∀w',(match ad with|some a=>storeCells a cs.toList|none=>pure ()).run P w= .ok () w'->(execOp A.eval o).run P w= .ok (.value (goInt es'.length)) w':=λw' hs=>by
  rw[QQ hop];have g0:(#[Value.slice ad len cap,A.eval y]:Array Value)[0]? =some (.slice ad len cap):=rfl;have g1:(#[Value.slice ad len cap,A.eval y]:Array Value)[1]? =some (A.eval y):=rfl;simp only[builtin,uo,w8,uw,hu,Builtin.copy_,a0,g0,g1,zp,run_underlying a2,zg,l1,l2,QV het.info,het.size,c1 w rfl,zq];cases ad with
  |none=>
   simp only[zq,ja,true_and]at hs;subst hs;simp only[zq,zg,zp]
  |some a=>
   simp only at hs;simp only[hs,zp,zg,zq]
 have hfin:∀ {w':World},(execOp A.eval o).run P w= .ok (.value (goInt es'.length)) w'->Inv κ g ((n,.cells size (c.take off++es'.flatten.map AV.d++c.drop (off+es'.length*ety.size)))::σ.mem) w'->o.wpIn (wd κ.rd) 0 P A w next Q:=λh1 h2=>by
  refine Qc h1 (hn g _ _ _ hK ?_);rw[hd];refine hst.put hdN Ext.rfl' h2 (.d _ _ (.it _ _)) (S.ok_cons hst.ok (zt _) rfl λp hp=>?_);rcases zi.1 hp with rfl|hp
  ·refine ⟨hlt.1,?_⟩;have h0:=hlt.2;simp only[Ob.lt,ze]at h0⊢;intro z hz;rcases yd.1 hz with h|h
   ·rcases yd.1 h with h|h
    ·exact h0 z (xg h)
    ·obtain ⟨y',_,rfl⟩:=yf.1 h;rfl
   ·exact h0 z (xx h)
  ·exact S.ok_memAll hst.ok p hp
 by_cases hm0:es'=[]
 ·subst hm0;have hcs:cs= #[]:=ux (by simpa using c2);subst hcs;refine hfin (hcopy w (by cases ad<;>rfl)) ?_;have:c.take off++([]:List (List D)).flatten.map AV.d++c.drop (off+([]:List (List D)).length*ety.size)=c:=by simp
  rw[this];exact hst.inv.dup hm
 ·have hpos:0<es'.length:=jp.2 hm0;obtain rfl:=had (by omega);have hone:∀v∈cs.toList,v.oneCell'=true:=λv hv=>by
   obtain⟨q,hq,rfl⟩:=yy.1 hv;have hq':q<cs.size:=by simpa using hq
   have:=QB6 (F:=g.F) ⟨c3,c4⟩ c2 h0 hq';simpa [Array.getD,hq']using this
  have hst1:=run_storeCells_at P (g.blk n) off T cs.toList 0 arr w e1 (by simp;omega) hone;simp only[x6,wq]at hst1;refine hfin (hcopy _ hst1) (hst.inv.write hm e1 (by simp;omega) (by simp only[zu,zy,zb,ym,hfl];omega) (λj hj=>?_) λj hj=>?_)
  ·have:=zm hj;rcases yd.1 this with h|h
   ·rcases yd.1 h with h|h
    ·obtain ⟨j',hj',he⟩:=yy.1 (xg h);rw[<-he];exact e4 _ _
    ·obtain ⟨y',_,he⟩:=yf.1 h;rw[<-he];rfl
   ·obtain ⟨j',hj',he⟩:=yy.1 (xx h);rw[<-he];exact e4 _ _
  ·have hj':j<size:=by simp only[zu,zy,ym,zb,hfl]at hj;omega
   rw[ZC _ _ _ _ (by omega) (by omega)];by_cases h1:j<off
   ·rw [if_neg (by omega),zx (by simp only[zu,zy,zb,ym,hfl];omega),zx (by simp;omega),xl];exact e5 _ _
   ·by_cases h2:j<off+cs.size
    ·rw [if_pos (by omega),zx (by simp only[zu,zy,zb,ym,hfl];omega),yb (by simp;omega)];have hmn:min off c.length=off:=by omega
     simp only[z1,zy,hmn];have hsz:∀z∈es',z.length=ety.size:=λz hz=>by
      obtain⟨j,hj,rfl⟩:=yy.1 hz;exact c3 j hj
     have hp:j-off<es'.length*ety.size:=by omega
     have hq:(j-off)/ety.size<es'.length:=Nat.div_lt_of_lt_mul (by rw[uj];exact hp);have hr:(j-off) % ety.size<ety.size:=u6 _ h0;have hjr:(j-off) % ety.size<es'[(j-off)/ety.size].length:=by rw[c3 _ hq];exact hr
     have hidx:(j-off)/ety.size*ety.size+(j-off) % ety.size=j-off:=by rw[uj];exact kg _ _
     have hf:=QGs hsz _ _ hq hjr;rw[hidx,zj (by omega)]at hf;rw[za hf];have hd:=c4 _ hq _ hjr;rw[hidx]at hd;exact .d _ _ hd
    ·rw [if_neg (by omega),yb (by simp only[zu,zy,zb,ym,hfl];omega),xm];have:=e5 j (by omega);have e:off+es'.length*ety.size+(j-(List.take off c++List.map AV.d es'.flatten).length)=j:=by simp only[zu,zy,zb,ym,hfl];omega
     simpa only[e]using this
theorem Inv.vecSplice(hdup:Inv κ g ((n,.vec t sz es fl)::mem) w)(h0:0<sz)(hh:g.has n=true)(hle:i+es'.length<=es.length)
  (c2:cs.size=es'.length*sz) (c3:∀i (h:i<es'.length),es'[i].length=sz) (c4:∀i (h:i<es'.length) j (hj:j<es'[i].length),DR g.F es'[i][j] (cs.getD (i*sz+j) undef)):
  ∃w',(storeCells ⟨g.blk n,g.hi n+i*sz,none⟩ cs.toList).run P w= .ok () w'/\Inv κ g ((n,.vec t sz (es.take i++es'++es.drop (i+es'.length)) fl)::mem) w':=by
 have hv:ZM g w n t sz es fl:=hdup.obs n (.vec t sz es fl) (by rw[QC,if_pos rfl]);obtain⟨v1,v2,v3⟩:=hv;have hsz2:∀z∈es.take i++es'++es.drop (i+es'.length),z.length=sz:=λz hz=>by
  rcases yd.1 hz with h|h
  ·rcases yd.1 h with h|h
   ·exact v1 _ (xg h)
   ·obtain ⟨j,hj,rfl⟩:=yy.1 h;exact c3 j hj
  ·exact v1 _ (xx h)
 have hlen2:(es.take i++es'++es.drop (i+es'.length)).length=es.length:=by simp;omega
 obtain⟨arr,e1,e2,e3,e4,e5,e6,e7⟩:=v3 hh;have hb:(i+es'.length)*sz<=g.cp n:=xy (zw _ (by omega)) e3;rw[z2]at hb;have hone:∀v∈cs.toList,v.oneCell'=true:=λv hv=>by
  obtain⟨q,hq,rfl⟩:=yy.1 hv;have hq':q<cs.size:=by simpa using hq
  have:=QB6 (F:=g.F) ⟨c3,c4⟩ c2 h0 hq';simpa [Array.getD,hq']using this
 have hst1:=run_storeCells_at P (g.blk n) (g.hi n+i*sz) t cs.toList 0 arr w e1 (by simp;omega) hone;simp only[x6,wq]at hst1;refine⟨_,hst1,hdup.vecWrite hh e1 (by simp;omega) hsz2 (by rw[hlen2];exact e3) (λq hq j hj=>?_) (λhf=>by rw[hlen2];exact e6 hf) λj hj=>?_⟩
 ·have hj':j<sz:=by rw[<-hsz2 _ (zm hq)];exact hj
  have hq2:q<es.length:=by rw[<-hlen2];exact hq
  have hmq:q*sz+sz<=es.length*sz:=by
   have:(q+1)*sz<=es.length*sz:=zw _ (by omega);rw[z2]at this;omega
  rw[ZC _ _ _ _ (by omega) (by omega)];by_cases hq1:q<i
  ·have hmi:q*sz+sz<=i*sz:=by
    have:(q+1)*sz<=i*sz:=zw _ (by omega);rw[z2]at this;omega
   rw[if_neg (by omega)];have hge:(es.take i++es'++es.drop (i+es'.length))[q]=es[q]:=by
    rw[zx (by simp;omega),zx (by simp;omega),xl]
   have:=e4 q hq2 j (by rw[<-hge];exact hj);simpa only[hge]using this
  ·have hmi:i*sz<=q*sz:=zw _ (by omega);by_cases hq3:q<i+es'.length
   ·have hmm:q*sz+sz<=i*sz+es'.length*sz:=by
     have:(q+1)*sz<=(i+es'.length)*sz:=zw _ (by omega);rw[z2,z2]at this;omega
    rw[if_pos (by rw[c2];omega)];have hge:(es.take i++es'++es.drop (i+es'.length))[q]=es'[q-i]'(by omega):=by
     rw[zx (by simp;omega),yb (by simp;omega)];simp only[zy,show min i es.length=i by omega]
    have:=c4 (q-i) (by omega) j (by rw[<-hge];exact hj);rw[Vm]at this;rw[show g.hi n+q*sz+j-(g.hi n+i*sz)=q*sz-i*sz+j by omega];simpa only[hge]using this
   ·have hmm:i*sz+es'.length*sz<=q*sz:=by
     rw[<-z2];exact zw _ (by omega)
    rw[if_neg (by rw[c2];omega)];have hge:(es.take i++es'++es.drop (i+es'.length))[q]=es[q]:=by
     rw[yb (by simp;omega),xm];have:i+es'.length+(q-(es.take i++es').length)=q:=by simp;omega
     simp only[this]
    have:=e4 q hq2 j (by rw[<-hge];exact hj);simpa only[hge]using this
 ·have:g.hi n+j<arr.size:=by omega
  rw[ZC _ _ _ _ (by omega) (by omega)];by_cases hin:g.hi n+i*sz<=g.hi n+j/\g.hi n+j<g.hi n+i*sz+cs.size
  ·rw [if_pos hin];have hq:g.hi n+j-(g.hi n+i*sz)<cs.size:=by omega
   rw[Array.getD,dif_pos hq];exact hone _ (by simp)
  ·rw [if_neg hin];exact e7 j hj
theorem St.vecPut{ob:Ob}(hst:St κ N g σ a w)(hm:look n σ.mem=some ob)(hi:Inv κ g ((n,.vec t sz es2 fl)::σ.mem) w'):St κ N g ⟨σ.sl,(n,.vec t sz es2 fl)::σ.mem,σ.nx⟩ a w':=by
 refine⟨hst.size,hst.defers,hst.sl,hi,?_⟩;rw[S.ok_iff];refine⟨(S.ok_iff.1 hst.ok).1,λp hp=>?_⟩;rcases zi.1 hp with rfl|hp
 ·exact ⟨(S.ok_mem hst.ok hm).1,rfl⟩
 ·exact S.ok_memAll hst.ok p hp
theorem QIV{tt:Nat}{l':List AV}{l:List D}(hti:QU P ti)(hop:o.op= .store t x y)(ht:ti t=some ty)(hx:ρ σ.sl x=some (.vq sz n k 0))(hy:ρ σ.sl y=some v)(hm:look n σ.mem=some (.vec tt sz es fl))
  (hc:XM v=some (sz,l')) (hl:allD l'=some l) (hsz:ty.size=sz) (h0:0<sz) (hk:k<es.length) (hno:o.dst=none) (hK:K ⟨σ.sl,(n,.vec tt sz (es.take k++[l]++es.drop (k+1)) fl)::σ.mem,σ.nx⟩):Zz P N o σ K:=by
 obtain⟨u,i,ht⟩:=QE (hti _ _ ht);intro κ g a w hst next Q hn
 obtain⟨q1,q2,q3,q4,q5⟩:=Ji hc (ρ_ok hst.sl hy) (ρ_lt hst.ok hy);obtain rfl:=QAj hl;simp only[zb]at q2 q3 q5;have hx':=ρ_ok hst.sl hx;generalize ha:a.eval x=p at hx';cases hx' with|vq _ _ _ _ hh=>?_
 obtain⟨w',h1,h2⟩:=(hst.inv.dup hm).vecSplice (P:=P) (i:=k) (es':=[l]) (cs:=(a.eval y).cells) h0 hh (by simp;omega) (by simp[q1]) (λj hj=>by simp at hj;subst hj;exact q2) (λj hj j' hj'=>by
  simp at hj;subst hj;simp only[W1]at hj'⊢;have:=q5 j' hj';simp only[z1]at this;cases this with|d _ _ h=>simpa using h)
 have hr:(execOp a.eval o).run P w= .ok .skip w':=by
  simp only[execOp,hop,ha,Instr.storeAt,Instr.sureAddr,storeVar,zp,zq,zg,QV ht.info,ht.size,ww];rw[if_neg (by omega)];simp only[x6];rw[h1];rfl
 refine Yx hr (hn g _ _ _ hK ?_);rw[hno];exact hst.vecPut hm h2
theorem QJq{ats:Array TypeId}{e tt len:Nat}(hti:QU P ti)(hop:o.op= .call ⟨.builtin .clear,#[x],ats⟩)(hno:o.dst=none)(ha:ats[0]? =some t)(ht:ti t=some ty)(hk:ty.kd= .slice e)(he:ti e=some ety)
  (h0:0<ety.size) (hz:ety.zero.length=ety.size) (hx:ρ σ.sl x=some (.vx ety.size n i len)) (hm:look n σ.mem=some (.vec tt ety.size es fl)) (hle:i+len<=es.length) (hK:K ⟨σ.sl,(n,.vec tt ety.size (es.take i++List.replicate len ety.zero++es.drop (i+len)) fl)::σ.mem,σ.nx⟩):Zz P N o σ K:=by
 obtain⟨u,inf,ht⟩:=QE (hti _ _ ht);obtain⟨ue,ie,het⟩:=QE (hti _ _ he);have hu:u= .slice e:=by
  have hkd:=ht.kd;rw[hk]at hkd;cases u<;>simp only[XU]at hkd<;>first|(cases hkd;done)|skip
  cases hkd;rfl
 subst hu;intro κ g A w hst next Q hn
 have hxv:=ρ_ok hst.sl hx;generalize hu:A.eval x=q at hxv;cases hxv with|vx _ _ _ _ ad c hc had=>?_
 have hrun:∀ {r:Result Value},(Builtin.clear_ ats o.type #[.slice ad len c]).run P w=r->(∀v w',r= .ok v w'->(execOp A.eval o).run P w= .ok (.value v) w'):=λh v w' hr=>by
  rw[QQ hop];simp only[builtin,uo,w8,uw,hu,zp,h,hr,zg,zq]
 by_cases h00:len=0
 ·subst h00;have h1:(Builtin.clear_ ats o.type #[.slice ad 0 c]).run P w= .ok (.tuple #[]) w:=by
   cases ad<;>simp[Builtin.clear_,ha,run_underlying ht.und,Result.andThen]
  refine Qc (hrun h1 _ _ rfl) (hn g _ _ _ hK ?_);rw[hno];have:es.take i++List.replicate 0 ety.zero++es.drop (i+0)=es:=by simp
  rw[this];exact hst.vecPut hm (hst.inv.dup hm)
 ·obtain ⟨hh,rfl,_⟩:=had.pos (by omega);obtain⟨z,hzv,hLR,hLA⟩:=Zl (g:=g) (z:=ie.zero) (h:=slH P 6 e) (by rw[het.zero];omega);rw[het.zero]at hLR hLA;have hrow:=QEc hLR (by omega) len;have hzs:z.cells.size=ety.size:=hLR.1.symm.trans hz;obtain⟨w',h1,h2⟩:=(hst.inv.dup hm).vecSplice (P:=P) (i:=i) (es':=List.replicate len ety.zero) (cs:=Builtin.zeroCells z.cells len) h0 hh (by simp;omega) (by simp[Builtin.zeroCells,hzs]) (λj hj=>by simp[hz]) (λj hj j' hj'=>by
   have:=hrow.2 j hj j' hj';rw[hz]at this;exact this)
  rw[kf]at h2;have h3:(Builtin.clear_ ats o.type #[.slice (some ⟨g.blk n,g.hi n+i*ety.size,none⟩) len c]).run P w= .ok (.tuple #[]) w':=by
   obtain⟨m,rfl⟩:∃m,len=m+1:=⟨len-1,by omega⟩;have hzr:∀w,(zeroValue e).run P w= .ok z w:=λw=>by simp[zeroValue,ZE het.info,hzv,Result.andThen]
   simp[Builtin.clear_,ha,run_underlying ht.und,hzr,h1,Result.andThen]
  refine Qc (hrun h3 _ _ rfl) (hn g _ _ _ hK ?_);rw[hno];exact hst.vecPut hm h2
theorem QGt{e len:Nat}(hti:QU P ti)(hop:o.op= .binOp .eql t x (.const (.slice none 0 0)) t')(hd:o.dst=some d)(hdN:d<N)(ht:ti t=some ty)(hk:ty.kd= .slice e)(hx:ρ σ.sl x=some (.ms sz n off len cap))(h0:0<cap)
  (hK:K (σ.put (some d) (.d (.bl false)))):Zz P N o σ K:=by
 intro κ g a w hst next Q hn
 obtain⟨u,i,ht⟩:=QE (hti _ _ ht);obtain rfl:=Q3 ht hk;have hxv:=ρ_ok hst.sl hx;generalize hv:a.eval x=q at hxv;cases hxv with|ms _ _ _ _ _ ad had hc=>?_
 obtain rfl:=had h0;have hr:(execOp a.eval o).run P w= .ok (.value (.bool false)) w:=by
  have h2:a.eval (.const (.slice none 0 0))= .slice none 0 0:=rfl;have hg:∀ad,(eqGuard .eql t x (.const (.slice none 0 0)) (.slice ad len cap) (.slice none 0 0)).run P w= .ok () w:=λ_=>by rfl
  simp only[execOp,hop,hv,h2,zp,hg,zg,QA9 w _ len cap ht.und,zq];rfl
 refine Qc hr (hn g _ _ _ hK ?_);rw[hd];exact hst.put hdN (.refl _ _) hst.inv (.d _ _ (.bl _)) (S.ok_cons hst.ok (zt _) rfl (S.ok_memAll hst.ok))
end
variable {Q:Exit->S->Prop}
section
variable {P:Program} {ti:Nat->Option Ty} {N:Nat} {o:Oper} {σ:S} {K:S->Prop}
theorem QC7(hti:QU P ti)(hd:∀d,o.dst=some d->d<N)(h:QKz P ti o σ K=some p)(hp:p):Zz P N o σ K:=by
 unfold QKz at h;split at h
 ·rename_i hop;split at h
  ·rename_i d hdst;obtain rfl:=za h;rcases hp with hp|hp
   ·exact QOI hop hdst (hd d hdst) hp
   ·exact QL7 hop hdst (hd d hdst) hp
  ·obtain rfl:=za h;exact hp.elim
 ·rename_i t x t' hop;split at h
  ·rename_i e sz by' z cmp pl d v ht hdst hx;split at h
   ·rename_i k es hs;obtain rfl:=za h;exact QIN hti hop hdst (hd d hdst) ht rfl hx hs hp
   ·cases h
  ·cases h
 ·rename_i e hop;split at h
  ·rename_i ty d ht hdst;obtain rfl:=za h;obtain⟨hb,hK⟩:=Qf hp;simp only[zf,yc]at hb;split at hK
   ·exact QIM hti hop hdst (hd d hdst) ht (zh hb.1) hb.2 hK
   ·exact QJm hti hop hdst (hd d hdst) ht (zh hb.1) hb.2 hK
  ·obtain rfl:=za h;exact hp.elim
 ·rename_i t x y hop;split at h
  ·rename_i e sz by' z cmp pl d kl len kc cap ht hdst hx hy;split at h
   ·rename_i ety he;obtain rfl:=za h;obtain⟨hb,hbd,hK⟩:=Qf hp;simp only[zf,yc]at hb;exact QL6 hti hop hdst (hd d hdst) ht rfl he hx hy (zh hb.1) hb.2 hbd hK.run.run
   ·obtain rfl:=za h;exact hp.elim
  ·obtain rfl:=za h;exact hp.elim
 ·rename_i e x hop;split at h
  ·rename_i ty d v ht hdst hx;split at h
   ·rename_i k l hc;obtain rfl:=za h;obtain⟨hb,hK⟩:=Qf hp;have hk:=zh hb;subst hk;exact QOH (ty:=ty) hop hdst (hd d hdst) hx hc hK
   ·obtain rfl:=za h;exact hp.elim
  ·obtain rfl:=za h;exact hp.elim
 ·rename_i t x y hop;split at h
  ·rename_i ty n off v hdst ht hx hy;split at h
   ·rename_i size c k l hm hc;obtain rfl:=za h;obtain⟨hb,hK⟩:=Qf hp;simp only[zf]at hb;refine QJn hti hop hd ht hx hy hm hc (zh hb.1) (yg hb.2) hdst ?_;cases hq:Nat.ble 17 k with
    |true=>rw[hq]at hK;exact Zy.out hK
    |false=>rw[hq]at hK;exact hK
   ·obtain rfl:=za h;exact hp.elim
  ·obtain rfl:=za h;exact hp.elim
 ·rename_i c hop;obtain⟨callee,args,ats⟩:=c;split at h
  ·rename_i x y d hc hl hdst;simp only at hc hl;subst hc;have ha:args= #[x,y]:=by rw[<-vf (xs:=args),hl]
   subst ha;split at h
   ·rename_i ety u v he hx hy;split at h
    ·rename_i es' ht;have hcnd:∀ {q:Option Prop},(bif (Nat.ble ety.bytes 65536&&Nat.blt 0 ety.size&&Nat.beq ety.zero.length ety.size)then q else some False)=some p->(ety.bytes<=65536/\0<ety.size/\ety.zero.length=ety.size)/\q=some p:=fun{q} hq=>by
      cases hb:(Nat.ble ety.bytes 65536&&Nat.blt 0 ety.size&&Nat.beq ety.zero.length ety.size)with
      |false=>rw[hb]at hq;obtain rfl:=za hq;exact hp.elim
      |true=>
       rw[hb]at hq;simp only[zf,yc]at hb;exact⟨⟨yg hb.1.1,hb.1.2,zh hb.2⟩,hq⟩
     obtain⟨⟨c1,c2,c3⟩,h⟩:=hcnd h;have hty:∀(κ:Ctx) (g:Gh) (a:Act) (w:World),St κ N g σ a w->X7 P g w ety.size es' (a.eval y):=λκ g a w hst=>Jx ht (ρ_ok hst.sl hy) hst.inv.frz;split at h
     ·rename_i sz es n _;obtain rfl:=za h;obtain⟨hb,hlen,hK⟩:=Qf hp;simp only[zf]at hb;have hm:look n σ.mem=some (.tail (Q2 ti ats) (QKy n σ.mem)):=by
       have:=hb.2;split at this
       ·rename_i t tb ht;have e:QKy n σ.mem=tb:=by simp only[QKy,ht]
        rw[e,ht,zh this]
       ·cases this
      have hsz:sz=ety.size\/(sz=0/\es=[]):=by
       rcases(wj _ _).mp hb.1 with h|h
       ·exact .inl (zh h)
       ·simp only[zf]at h;exact .inr ⟨zh h.1,by simpa using h.2⟩
      intro κ g a w hst;refine YO (m:=n) (M:=σ.nx) hti hop hdst (hd d hdst) he c1 c2 c3 hty (zt _) ?_ (λκ g a w hst=>?_) hlen hK κ g a w hst
      ·have:=ρ_lt hst.ok hx;simpa [AV.lt,AV.lt2,AV.lt1,AV.lt0]using this
      ·have hr:=ρ_ok hst.sl hx;generalize a.eval x=q at hr;cases hr with
       |ts0 _ _ _ ad len hl hdr hh hz=>
        subst hl;refine⟨ad,_,rfl,⟨sz,hdr,?_⟩,.inl ⟨rfl,λhb=>hz ((hst.inv.obs n _ hm).2 hb hh)⟩⟩;rcases hsz with h|h
        ·exact .inl h
        ·exact .inr h.2
       |ts _ _ _ off len cap h0 hn hdr hl hcap h1 h2 hpos=>
        subst hl;have hs:sz=ety.size:=by
         rcases hsz with h|h
         ·exact h
         ·omega
        subst hs;exact⟨_,_,rfl,⟨_,hdr,.inl rfl⟩,.inr ⟨⟨_,hm⟩,hn,hpos,hcap,off,rfl,h1,h2⟩⟩
     ·rename_i sz es _;obtain rfl:=za h;obtain⟨hb,hlen,hK⟩:=Qf hp;have hsz:sz=ety.size\/es=[]:=by
       rcases(wj _ _).mp hb with h|h
       ·exact .inl (zh h)
       ·exact .inr (by simpa using h)
      intro κ g a w hst;refine YO (m:=σ.nx) (M:=σ.nx+1) (es:=es) (tb:=false) hti hop hdst (hd d hdst) he c1 c2 c3 hty (y3 _) (y6 _) (λκ g a w hst=>?_) hlen ?_ κ g a w hst
      ·have hr:=ρ_ok hst.sl hx;generalize a.eval x=q at hr;cases hr with
       |tg _ _ ad len hl hdr=>
        subst hl;exact⟨ad,_,rfl,⟨sz,hdr,hsz⟩,.inl ⟨rfl,λh=>by cases h⟩⟩
      ·rw [Zd (S.ok_iff.1 hst.ok).1,Zo λp hp=>(S.ok_memAll hst.ok p hp).2];exact hK
     ·rename_i sz _;obtain rfl:=za h;obtain⟨hlen,hK⟩:=hp;intro κ g a w hst;refine YO (m:=σ.nx) (M:=σ.nx+1) (es:=[]) (tb:=true) hti hop hdst (hd d hdst) he c1 c2 c3 hty (y3 _) (y6 _) (λκ g a w hst=>?_) (by simpa using hlen) ?_ κ g a w hst
      ·have hr:=ρ_ok hst.sl hx;generalize a.eval x=q at hr;cases hr with
       |nl=>exact⟨none,0,rfl,⟨ety.size,.fs0 _ _ _,.inl rfl⟩,.inl ⟨rfl,λ_=>⟨rfl,rfl⟩⟩⟩
      ·rw [Zd (S.ok_iff.1 hst.ok).1,Zo λp hp=>(S.ok_memAll hst.ok p hp).2];exact hK
     ·rename_i sz n i len _;obtain rfl:=za h;split at hp
      ·rename_i t sz' es fl hm;obtain⟨hb,⟨h1,h2⟩,hK⟩:=Qf hp;simp only[zf]at hb;obtain⟨⟨⟨b1,b2⟩,b3⟩,b4⟩:=hb;obtain rfl:=zh b1;obtain rfl:=zh b2;obtain rfl:=zh b3;obtain rfl:=zh b4;exact QFr hti hop hdst (hd d hdst) he c1 c2 c3 hx hty hm h1 h2 hK.out.run
      ·exact hp.elim
     ·obtain rfl:=za h;exact hp.elim
    ·split at h
     ·rename_i sz es sz' n i len _;obtain rfl:=za h;split at hp
      ·rename_i t sz'' es2 fl hm;obtain⟨hb,⟨h1,h2⟩,hK⟩:=Qf hp;simp only[zf,yc]at hb;obtain⟨⟨⟨b1,b2⟩,b3⟩,⟨b4,b5⟩,b6⟩:=hb;obtain rfl:=zh b4;obtain rfl:=zh b5;have hsz:sz=ety.size\/es=[]:=by
        rcases(wj _ _).mp b6 with h|h
        ·exact .inl (zh h)
        ·exact .inr (by simpa using h)
       have hty:∀(κ:Ctx) (g:Gh) (a:Act) (w:World),St κ N g σ a w->X7 P g w ety.size ((es2.drop i).take len) (a.eval y):=λκ g a w hst=>QAV (hst.inv.obs n _ hm) (ρ_ok hst.sl hy) h1;have hlen:((es2.drop i).take len).length=len:=by simp;omega
       intro κ g a w hst;refine YO (m:=σ.nx) (M:=σ.nx+1) (es:=es) (tb:=false) hti hop hdst (hd d hdst) he (yg b1) b2 (zh b3) hty (y3 _) (y6 _) (λκ g a w hst=>?_) (by omega) ?_ κ g a w hst
       ·have hr:=ρ_ok hst.sl hx;generalize a.eval x=q at hr;cases hr with
        |tg _ _ ad len hl hdr=>
         subst hl;exact⟨ad,_,rfl,⟨sz,hdr,hsz⟩,.inl ⟨rfl,λh=>by cases h⟩⟩
       ·rw [Zd (S.ok_iff.1 hst.ok).1,Zo λp hp=>(S.ok_memAll hst.ok p hp).2];exact hK.out
      ·exact hp.elim
     ·obtain rfl:=za h;exact hp.elim
   ·obtain rfl:=za h;exact hp.elim
  ·rename_i x y d hc hl hdst;simp only at hc hl;subst hc;have ha:args= #[x,y]:=by rw[<-vf (xs:=args),hl]
   subst ha;split at h
   ·rename_i es n m hx hy;obtain rfl:=za h;split at hp
    ·rename_i t b e _ _ _ _ _ hm hpt;split at hp
     ·rename_i he;obtain⟨hb,l,⟨h1,h2,h3⟩,hK⟩:=Qf hp;obtain rfl:=zh hb;subst h2;obtain⟨pt,h0,hpt⟩:=wy.1 hpt;simp only at h0;intro κ g a w hst;exact QON hti hop h0 hdst (hd d hdst) hx hy hm hpt rfl he rfl h1 h3 hK κ g a w hst
     ·exact hp.elim
    ·exact hp.elim
   ·rename_i hx hy;obtain rfl:=za h;split at hp
    case h_2=>exact hp.elim
    rename_i pt h0;simp only at h0;intro κ g a w hst next Q hn
    have h1:=Xq (ρ_ok hst.sl hx);have h2:=ZI (ρ_ok hst.sl hy);have hrun:(execOp a.eval o).run P w= .ok (.value (.string ⟨([]:List UInt8).toArray⟩)) w:=by
     rw[QQ hop];simp only[uo,w8,uw,h1,h2,builtin,zp,YP w ats pt o.type h0 none,zg,zq];rfl
    refine Qc hrun (hn g _ _ _ hp ?_);rw[hdst];exact hst.put (hd d hdst) (.refl _ _) hst.inv (.d _ _ (.st [])) (S.ok_cons hst.ok (zt _) rfl (S.ok_memAll hst.ok))
   ·obtain rfl:=za h;exact hp.elim
  ·cases h
 ·cases h
theorem QL9{args:List AV}{xs:Array Operand}{ats:Array TypeId}(hd:∀d,o.dst=some d->d<N)(hop:o.op= .call ⟨.value (.func f),xs,ats⟩)(ha:QC1 (ρ σ.sl) xs.toList=some args)(h:ZK P f args λv=>K (σ.put o.dst v)):Zz P N o σ K:=by
 intro κ g a w hst next Q hn
 obtain⟨v,hC,hK⟩:=h.run;obtain⟨hlt,hdoes⟩:=QFj (mem:=σ.mem) (nx:=σ.nx) hop ha hC (λn ob hl=>S.ok_mem hst.ok hl);refine hdoes κ g a w hst.inv (λx _ v hx=>ρ_ok hst.sl hx) next Q λg' u w' he hi' hv=>?_
 refine hn g' _ _ _ hK ?_;cases hdst:o.dst with
 |none=>
  show St κ N g' σ a w';exact⟨hst.size,hst.defers,λk x hk=>(hst.sl k x hk).ext he (S.ok_sl hst.ok hk),hi',hst.ok⟩
 |some d=>exact hst.put (hd d hdst) he hi' hv (S.ok_cons hst.ok (zt _) hlt (S.ok_memAll hst.ok))
theorem QGu(hti:QU P ti)(hd:∀d,o.dst=some d->d<N)(h:QJk P N o σ K=some p)(hp:p):Zz P N o σ K:=by
 unfold QJk at h;split at h
 case h_2=>cases h
 rename_i x xs ats hop;split at h
 ·rename_i f first cap l hx hl
  split at h
  ·rename_i f' l' hl';obtain rfl:=za h;rcases hp.run with hp|hp
   rotate_left
   ·exact hp.run ⟨⟨_,_,_,_,_,_,hop,hx,hl,rfl⟩,hd⟩
   ·have:f'=f:=by
     simp only[ρ]at hx;cases hx;rfl
    subst this;exact QL9 hd hop hl' hp
  ·obtain rfl:=za h;exact hp.run ⟨⟨_,_,_,_,_,_,hop,hx,hl,rfl⟩,hd⟩
 ·rename_i n l hx hl;obtain rfl:=za h;exact hp.run ⟨⟨_,_,_,hop,hx,hl⟩,hd⟩
 ·cases h
theorem QAt(h:QFC ety=true):ety.bytes<=65536/\0<ety.size/\ety.zero.length=ety.size:=by
 simp only[QFC,zf,yc]at h;exact⟨yg h.1.1,h.1.2,zh h.2⟩
theorem QMA{ats:Array TypeId}{e:Nat}(h:QJj ti ats=some (e,ety)):∃tt t1 ty ty1 kk,ats[0]? =some tt/\ti tt=some ty/\ty.kd= .slice e/\ti e=some ety/\ats[1]? =some t1/\ti t1=some ty1/\ty1.kd= .int kk:=by
 unfold QJj at h;split at h
 case h_2=>cases h
 rename_i t t1 h0 h1;split at h
 case h_2=>cases h
 rename_i e' _ _ _ _ _ kk _ _ _ _ _ ht ht1;split at h
 case h_2=>cases h
 rename_i ety' he;simp only[yo,xo]at h;obtain⟨rfl,rfl⟩:=h;exact⟨t,t1,_,_,kk,h0,ht,rfl,he,h1,ht1,rfl⟩
theorem QIW(hti:QU P ti)(hd:∀d,o.dst=some d->d<N)(h:QOG P ti o σ K=some p)(hp:p):Zz P N o σ K:=by
 unfold QOG at h;split at h
 case h_5=>cases h
 case h_2=>
  rename_i t x _ hop;split at h
  case h_2=>cases h
  rename_i e _ _ _ _ _ d sz n off len cap ht hdst hx;obtain rfl:=za h;exact QGt hti hop hdst (hd d hdst) ht rfl hx hp.1 hp.2
 case h_3=>
  rename_i t x y hop;split at h
  case h_2=>cases h
  rename_i ty sz n k off v hno ht hx hy;obtain rfl:=za h;split at hp
  case h_2=>exact hp.elim
  rename_i tt sz' es fl q l' hm hc;split at hp
  case h_2=>exact hp.elim
  rename_i l hl;obtain⟨hb,hk,hK⟩:=Qf hp;simp only[zf,yc]at hb;obtain⟨⟨b1,b2⟩,⟨b3,b4⟩,b5⟩:=hb;obtain rfl:=zh b1;obtain rfl:=zh b2;have b3:=zh b3;obtain rfl:=zh b4;exact QIV hti hop ht hx hy hm hc hl b3 b5 hk hno hK.out
 case h_4=>
  rename_i t n parts hop;split at h
  case h_2=>cases h
  rename_i d e _ _ _ _ _ ps hdst ht hps;split at h
  case h_2=>cases h
  rename_i ety he;cases hb:(QFC ety&&Nat.blt 0 n&&(Nat.ble (n*ety.size) 16777216&&ps.all (λp=>Nat.blt p.1 n)))with
  |false=>rw[hb]at h;cases h
  |true=>
   rw[hb]at h;simp only[zf,yc]at hb;simp only[cond_true]at h;split at h
   case h_2=>cases h
   rename_i l hfl;obtain rfl:=za h;obtain⟨c1,c2,c3⟩:=QAt hb.1.1;rcases hp with hp|hp
   ·exact QEb hti hd hp
   ·exact QIT hti hop hdst (hd d hdst) ht rfl he hps c3 c2 (yg hb.2.1) hb.2.2 hfl hp.out
 rename_i c hop;obtain⟨callee,args,ats⟩:=c;split at h
 ·rename_i x d hc hl hdst;simp only at hc hl;subst hc;have ha:args= #[x]:=by rw[<-vf (xs:=args),hl]
  subst ha;split at h
  case h_2=>cases h
  rename_i sz n i len e _ _ _ _ _ hx ht;obtain rfl:=za h;obtain⟨tt,h0,ht⟩:=wy.1 ht;split at hp
  case h_2=>exact hp.elim
  rename_i t sz' es fl hm;obtain⟨hb,hK⟩:=Qf hp;simp only[zf,yc]at hb;obtain⟨⟨b1,b2⟩,b3⟩:=hb;obtain rfl:=zh b1;obtain rfl:=zh b2;refine QOO hti hop hdst (hd d hdst) h0 ht rfl hx hm b3 λext he hf=>?_;cases fl with
  |true=>
   rw[hf rfl,y4];exact hK
  |false=>exact hK.run ext he
 ·rename_i x y d hc hl hdst;simp only at hc hl;subst hc;have ha:args= #[x,y]:=by rw[<-vf (xs:=args),hl]
  subst ha;split at h
  case h_3=>cases h
  case h_2=>
   rename_i sz n off len cap ety v hx he hy;obtain rfl:=za h;split at hp
   case h_2=>exact hp.elim
   rename_i size c es' hm hte;obtain⟨hb,⟨k1,k2⟩,hK⟩:=Qf hp;simp only[zf,yc]at hb;obtain⟨b1,b2⟩:=hb;obtain rfl:=zh b1;exact QJp hti hop hdst (hd d hdst) he b2 hx (λκ g a w hst=>X7.copy (Jx hte (ρ_ok hst.sl hy) hst.inv.frz) k2) hm k1 hK.out
  rename_i sz n i len ety v hx he hy;obtain rfl:=za h;split at hp
  case h_2=>exact hp.elim
  rename_i t sz' es fl hm;obtain⟨hb,hK⟩:=Qf hp;simp only[zf,yc]at hb;obtain⟨⟨b1,b2⟩,b3⟩:=hb;obtain rfl:=zh b1;obtain rfl:=zh b2;split at hK
  ·rename_i es' hte;obtain⟨⟨k1,k2⟩,hK⟩:=hK;exact QFt hti hop hdst (hd d hdst) he b3 hx (λκ g a w hst=>X7.copy (Jx hte (ρ_ok hst.sl hy) hst.inv.frz) k2) hm k1 hK.out
  ·split at hK
   case h_2=>exact hK.elim
   rename_i sz2 n2 i2 len2 _;split at hK
   case h_2=>exact hK.elim
   rename_i t3 sz3 es2 fl2 hm2;obtain⟨hb2,⟨k1,k2⟩,hK2⟩:=Qf hK;simp only[zf]at hb2;obtain rfl:=zh hb2.1;obtain rfl:=zh hb2.2;have hK:=hK2.run.out;generalize hq:Nat.min len2 len=q at hK;have hql:q<=len2:=by rw[<-hq];exact Nat.min_le_left len2 len
   have hlen:((es2.drop i2).take q).length=q:=by simp;omega
   refine QFt (es':=(es2.drop i2).take q) hti hop hdst (hd d hdst) he b3 hx (λκ g a w hst=>QQN (hst.inv.obs n2 _ hm2) (ρ_ok hst.sl hy) k2 hq) hm k1 ?_;rw[hlen];exact hK
 ·rename_i x y d hc hl hdst;simp only at hc hl;subst hc;have ha:args= #[x,y]:=by rw[<-vf (xs:=args),hl]
  subst ha;split at h
  ·rename_i sz n i len k z hx hy;obtain rfl:=za h;split at hp
   case h_2=>exact hp.elim
   rename_i e ety t sz' es fl hmk hm;obtain⟨hb,⟨k1,k2,k3,k4⟩,hK⟩:=Qf hp;simp only[zf]at hb;obtain⟨⟨⟨⟨b0,b1⟩,b2⟩,b3⟩,b4⟩:=hb;subst b0;obtain rfl:=zh b1;obtain rfl:=zh b2;obtain rfl:=zh b3;obtain⟨c1,c2,c3⟩:=QAt b4;obtain⟨tt,t1,ty,ty1,kk,a0,ht,hk,he,a1,ht1,hk1⟩:=QMA hmk;exact QL8 hti hop hdst (hd d hdst) a0 ht hk he a1 ht1 hk1 c1 c2 c3 hx (by rw[hy,Int.toNat_of_nonneg k1]) hm k2 k3 k4 hK.out.run
  ·rename_i sz n i len sz' n' i' len' hx hy;obtain rfl:=za h;split at hp
   case h_2=>exact hp.elim
   rename_i ety t sz2 es fl t3 sz3 es2 fl2 he hm hm2;obtain⟨hb,⟨k1,k2,k3⟩,hK⟩:=Qf hp;simp only[zf]at hb;obtain⟨⟨b0,⟨⟨b1,b2⟩,b3⟩,b4⟩,b5,b6⟩:=hb;obtain rfl:=zh b1;obtain rfl:=zh b2;obtain rfl:=zh b3;obtain rfl:=zh b4;obtain rfl:=zh b5;obtain rfl:=zh b6;obtain⟨c1,c2,c3⟩:=QAt b0;have hlen:((es2.drop i').take len').length=len':=by simp;omega
   have hK:=hK.out.run;refine QFr (es':=(es2.drop i').take len') hti hop hdst (hd d hdst) he c1 c2 c3 hx (λκ g a w hst=>QAV (hst.inv.obs n' _ hm2) (ρ_ok hst.sl hy) k2) hm k1 (by omega) ?_;rw[hlen];exact hK
  ·rename_i sz es sz' n off len cap hx hy;obtain rfl:=za h;split at hp
   case h_2=>exact hp.elim
   rename_i ety size c' he hm;obtain⟨hb,es2,⟨k1,k2,k3,k4,k5⟩,hK⟩:=Qf hp;simp only[zf]at hb;obtain⟨b0,b1,b2⟩:=hb;obtain rfl:=zh b1;obtain⟨c1,c2,c3⟩:=QAt b0;have hsz:sz=ety.size\/es=[]:=by
    rcases(wj _ _).mp b2 with h|h
    ·exact .inl (zh h)
    ·exact .inr (by simpa using h)
   have hty:∀(κ:Ctx) (g:Gh) (a:Act) (w:World),St κ N g σ a w->X7 P g w ety.size es2 (a.eval y):=λκ g a w hst=>QOP (hst.inv.obs n _ hm) (ρ_ok hst.sl hy) k1 k2 k3 k4;rcases hK with hK|⟨rfl,hK⟩
   ·intro κ g a w hst;refine YO (m:=σ.nx) (M:=σ.nx+1) (es:=es) (tb:=false) hti hop hdst (hd d hdst) he c1 c2 c3 hty (y3 _) (y6 _) (λκ g a w hst=>?_) (by omega) ?_ κ g a w hst
    ·have hr:=ρ_ok hst.sl hx;generalize a.eval x=q at hr;cases hr with
     |tg _ _ ad len hl hdr=>
      subst hl;exact⟨ad,_,rfl,⟨sz,hdr,hsz⟩,.inl ⟨rfl,λh=>by cases h⟩⟩
    ·rw [Zd (S.ok_iff.1 hst.ok).1,Zo λp hp=>(S.ok_memAll hst.ok p hp).2];exact hK
   ·refine QFs hti hop hdst (hd d hdst) he c1 c2 c3 (λκ g a w hst=>?_) hty (by simp only[xv]at k5;omega) (by rw[k2];exact hK.run);have hr:=ρ_ok hst.sl hx;generalize a.eval x=q at hr;cases hr with|tg _ _ ad len hl hdr=>?_
    simp at hl;subst hl;exact⟨_,rfl⟩
  ·rename_i sz es v _ hx hy;split at h
   case h_2=>cases h
   rename_i p' ety hpe he;split at h
   case h_2=>cases h
   rename_i es' hte;cases hb:QFC ety with
   |false=>rw[hb]at h;cases h
   |true=>
    rw[hb]at h;obtain rfl:=za h;obtain⟨c1,c2,c3⟩:=QAt hb;rcases hp with hp|⟨rfl,k1,hK⟩
    ·exact QC7 hti hd hpe hp
    ·refine QFs hti hop hdst (hd d hdst) he c1 c2 c3 (λκ g a w hst=>?_) (λκ g a w hst=>Jx hte (ρ_ok hst.sl hy) hst.inv.frz) k1 hK.out.run;have hr:=ρ_ok hst.sl hx;generalize a.eval x=q at hr;cases hr with|tg _ _ ad len hl hdr=>?_
     simp at hl;subst hl;exact⟨_,rfl⟩
  ·cases h
 ·rename_i x hc hl hdst;simp only at hc hl;subst hc;have ha:args= #[x]:=by rw[<-vf (xs:=args),hl]
  subst ha;split at h
  case h_2=>cases h
  rename_i sz n i len e _ _ _ _ _ hx ht;obtain rfl:=za h;obtain⟨t,h0,ht⟩:=wy.1 ht;split at hp
  case h_2=>exact hp.elim
  rename_i tt sz' es fl ety hm he;obtain⟨hb,hle,hK⟩:=Qf hp;simp only[zf]at hb;obtain⟨b0,b1,b2⟩:=hb;obtain rfl:=zh b1;obtain rfl:=zh b2;obtain⟨c1,c2,c3⟩:=QAt b0;exact QJq hti hop hdst h0 ht rfl he c2 c3 hx hm hle hK.out
 ·cases h
theorem QMB(hd:∀d,o.dst=some d->d<N)(h:evX P N o σ K=some p)(hp:p):Zz P N o σ K:=by
  have key:∀ {p:Prop},some (OpX P N o σ K)=some p->p->Zz P N o σ K:=λh hp=>by
    obtain rfl:=za h;exact hp.run hd
  unfold evX at h;split at h
  case h_1 => split at h
              · exact key h hp
              · cases h
  case h_10 => split at h
               · cases h
               · exact key h hp
  case h_11 => split at h
               · exact key h hp
               · cases h
  case h_12 => split at h
               · split at h
                 · exact key h hp
                 · cases h
               · cases h
  all_goals first|exact key h hp|cases h
theorem QEd(hti:QU P ti)(h:QJl P ti N o σ K):Zz P N o σ K:=by
 unfold QJl at h;obtain⟨hd,h⟩:=Qf h;have hd':∀d,o.dst=some d->d<N:=λd hdst=>by rw[hdst]at hd;simpa using hd
 split at h
 ·rename_i p hp;exact QMB hd' hp h
 split at h
 ·rename_i p hp;exact QGu hti hd' hp h
 split at h
 ·rename_i p hp;exact QIW hti hd' hp h
 split at h
 ·rename_i p hp;exact QC7 hti hd' hp h
 ·exact QEb hti hd' h
def Qq(all:List Oper)(j:Nat):Option Nat:=
 match all[j]? with
 |some o=>o.dst
 |none=>none
def Zp(P:Program)(ti:Nat->Option Ty)(N:Nat)(all:List Oper):List Oper->S->(S->Prop)->Prop
 |[],σ,K=>K σ
 |o::r,σ,K=>match o.guard with
  |none=>QJl P ti N o σ λσ'=>Zp P ti N all r σ' K
  |some (j,true)=>match Qq all j with
   |some d=>match look d σ.sl with
    |some (.d (.bl b))=>Spl b (QJl P ti N o ⟨(d,.d (.bl true))::σ.sl,σ.mem,σ.nx⟩ λσ'=>Zp P ti N all r σ' K) (Zp P ti N all r (S.put ⟨(d,.d (.bl false))::σ.sl,σ.mem,σ.nx⟩ o.dst (.tup [])) K)
    |some (.tup [])=>Zp P ti N all r (S.put σ o.dst (.tup [])) K
    |_=>False
   |none=>False
  |some (j,false)=>match Qq all j with
   |some d=>match look d σ.sl with
    |some (.d (.bl b))=>Spl b (Zp P ti N all r (S.put ⟨(d,.d (.bl true))::σ.sl,σ.mem,σ.nx⟩ o.dst (.tup [])) K) (QJl P ti N o ⟨(d,.d (.bl false))::σ.sl,σ.mem,σ.nx⟩ λσ'=>Zp P ti N all r σ' K)
    |some (.tup [])=>Zp P ti N all r (S.put σ o.dst (.tup [])) K
    |_=>False
   |none=>False
theorem St.known{c:Bool}(h:St κ N g σ a w)(hd:look d σ.sl=some (.d (.bl b)))(hb:b=c):St κ N g ⟨(d,.d (.bl c))::σ.sl,σ.mem,σ.nx⟩ a w:=by
 subst hb;refine⟨h.size,h.defers,λk x hk=>?_,h.inv,?_⟩
 ·rw [QC]at hk;by_cases hkd:k=d
  ·subst hkd;rw[if_pos rfl]at hk;obtain rfl:=za hk;exact h.sl _ _ hd
  ·rw [if_neg hkd]at hk;exact h.sl k x hk
 ·exact S.ok_cons (σ:=σ) h.ok (zt _) rfl (S.ok_memAll h.ok)
theorem St.skip(h:St κ N g σ a w):St κ N g (σ.put o.dst (.tup [])) (a.put o.dst undef) w:=by
 cases hd:o.dst with
 |none=>exact h
 |some d=>
  refine⟨by simp[Zm,h.size],by rw[put_defers];exact h.defers,λk x hk=>?_,h.inv,S.ok_cons (σ:=σ) h.ok (zt _) rfl (S.ok_memAll h.ok)⟩;simp only[S.put]at hk;rw[QC]at hk;by_cases hkd:k=d
  ·rw [if_pos hkd]at hk;obtain rfl:=za hk;have e:(a.put (some d) undef).tmps.getD k undef=undef:=by
    rw[Zm];by_cases hs:d<a.tmps.size
    ·rw [YN _ _ _ _ hs,if_pos hkd]
    ·simp [Array.getD,Array.setIfInBounds,hs,hkd]
   rw[e];exact .tup [] #[] rfl λj hj=>by cases hj
  ·rw [if_neg hkd]at hk;have:=h.sl k x hk;have e:(a.put (some d) undef).tmps.getD k undef=a.tmps.getD k undef:=by
    rw[Zm];by_cases hs:d<a.tmps.size
    ·rw [YN _ _ _ _ hs,if_neg hkd]
    ·simp [Array.setIfInBounds,hs]
   rw[e];exact this
theorem XA{y:Nat->Option Bool}(h:o.guard=none):Region.wanted o y=true:=by simp[Region.wanted,h]
theorem YQ{y:Nat->Option Bool}{c:Bool}(h:o.guard=some (j,c))(hy:y j=some b):Region.wanted o y=(b==c):=by
 simp[Region.wanted,h,hy]
theorem QBU{ops:Array Oper}(h:St κ N g σ a w)(hg:Qq ops.toList j=some d)(hd:look d σ.sl=some (.d (.bl b))):yielded ops a.tmps j=some b:=by
 have hs:=h.sl _ _ hd;have hv:a.tmps.getD d undef= .bool b:=by generalize a.tmps.getD d undef=q at hs;cases hs with|d _ _ h=>cases h;rfl
 have hlt:d<a.tmps.size:=by
  rcases yj d a.tmps.size with h'|h'
  ·exact h'
  ·simp [Array.getD,Nat.not_lt.2 h',undef]at hv
 have hd':a.tmps[d]? =some (.bool b):=by rw[QDe _ hlt,hv]
 unfold Qq at hg;unfold yielded;have:ops[j]? =ops.toList[j]? :=by simp
 rw[this];cases hq:ops.toList[j]? with
 |none=>rw[hq]at hg;cases hg
 |some q=>
  rw[hq]at hg;simp only[jj];have hg':q.dst=some d:=hg;simp only[hg',jj,hd']
theorem Xr{y:Nat->Option Bool}{c:Bool}(h:o.guard=some (j,c))(hy:y j=none):Region.wanted o y=false:=by
 simp[Region.wanted,h,hy]
theorem XR{all:List Oper}(h:AVR g (.tup []) (a.tmps.getD d undef))(hg:Qq all j=some d):yielded all.toArray a.tmps j=none:=by
 have hv:a.tmps.getD d undef= .tuple #[]:=by
  generalize a.tmps.getD d undef=q at h;cases h with
  |tup _ vs h1 _=>simp at h1;subst h1;rfl
 unfold Qq at hg;unfold yielded;have:all.toArray[j]? =all[j]? :=by simp
 rw[this];cases hq:all[j]? with
 |none=>rfl
 |some q=>
  rw[hq]at hg;have hg':q.dst=some d:=hg;simp only[jj,hg'];cases hd:a.tmps[d]? with
  |none=>rfl
  |some x=>
   have:a.tmps.getD d undef=x:=by simp[wv,hd]
   rw[this]at hv;subst hv;rfl
theorem Xc(hti:QU P ti){ops:Array Oper}{Q:Exit->Act->World->Prop}:∀(r:List Oper) (i:Nat) (σ:S) (K:S->Prop) (κ:Ctx) (g:Gh) (a:Act) (w:World),(∀j,r[j]? =ops.toList[i+j]?)->Zp P ti N ops.toList r σ K->St κ N g σ a w->
  (∀g' σ' a' w',K σ'->St κ N g' σ' a' w'->Q .normal a' w')->wpOpsIn (wd κ.rd) 0 P ops Q (List.range' i r.length) a w
 |[],i,σ,K,κ,g,a,w,_,h,hst,hQ=>hQ g σ a w h hst
 |o::r,i,σ,K,κ,g,a,w,hr,h,hst,hQ=>by
  have ho:ops[i]? =some o:=by have:=hr 0;simpa using this.symm
  have hr':∀j,r[j]? =ops.toList[i+1+j]? :=λj=>by have:=hr (j+1);rw[show i+1+j=i+(j+1) by omega];simpa using this
  have run:∀ {σ:S},QJl P ti N o σ (λσ'=>Zp P ti N ops.toList r σ' K)->St κ N g σ a w->o.wpIn (wd κ.rd) 0 P a w (wpOpsIn (wd κ.rd) 0 P ops Q (List.range' (i+1) r.length)) Q:=λh hst=>
   QEd hti h κ g a w hst _ Q λg' σ' a' w' hK hst'=>Xc hti r (i+1) σ' K κ g' a' w' hr' hK hst' hQ
  simp only[yq,List.range'_succ,wpOpsIn,ho];simp only[Zp]at h;split at h
  ·rename_i hg;rw[if_pos (XA hg)];exact run h hst
  ·rename_i j hg;split at h
   case h_2=>exact h.elim
   rename_i d hd;split at h
   case h_3=>exact h.elim
   case h_2=>rename_i hb;rw[Xr hg (by simpa using XR (hst.sl _ _ hb) hd),if_neg (by decide)];exact⟨λ_ _=>trivial,Xc hti r (i+1) _ K κ g _ w hr' h hst.skip hQ⟩
   rename_i b hb;rw[YQ hg (QBU hst hd hb)];cases b with
   |true=>rw[if_pos (by decide)];exact run (h.t rfl) (hst.known hb rfl)
   |false=>rw[if_neg (by decide)];exact⟨λ_ _=>trivial,Xc hti r (i+1) _ K κ g _ w hr' (h.f rfl) (hst.known hb rfl).skip hQ⟩
  ·rename_i j hg;split at h
   case h_2=>exact h.elim
   rename_i d hd;split at h
   case h_3=>exact h.elim
   case h_2=>rename_i hb;rw[Xr hg (by simpa using XR (hst.sl _ _ hb) hd),if_neg (by decide)];exact⟨λ_ _=>trivial,Xc hti r (i+1) _ K κ g _ w hr' h hst.skip hQ⟩
   rename_i b hb;rw[YQ hg (QBU hst hd hb)];cases b with
   |true=>rw[if_neg (by decide)];exact⟨λ_ _=>trivial,Xc hti r (i+1) _ K κ g _ w hr' (h.t rfl) (hst.known hb rfl).skip hQ⟩
   |false=>rw[if_pos (by decide)];exact run (h.f rfl) (hst.known hb rfl)
def Ctx.add(κ:Ctx)(l:List Nat):Ctx:= {κ with df:=l++κ.df,dfb:=l++κ.dfb}
def Ctx.fr(κ:Ctx)(l:List Nat):Prop:=l.Nodup/\∀D∈l,D∉κ.dfb/\κ.w0.heap.size<=D
theorem Ctx.add_add(κ:Ctx)(l l':List Nat):(κ.add l).add l'=κ.add (l'++l):=by simp[Ctx.add,x4]
theorem Ctx.fr_nil(κ:Ctx):κ.fr []:=⟨w9,λD h=>by cases h⟩
theorem Ctx.fr_app{l l':List Nat}(h:κ.fr l)(h':(κ.add l).fr l'):κ.fr (l'++l):=by
 refine⟨List.nodup_append.2 ⟨h'.1,h.1,λa ha b hb e=>?_⟩,λD hD=>?_⟩
 ·subst e;exact(h'.2 a ha).1 (vu _ hb)
 ·rcases yd.1 hD with hD|hD
  ·exact ⟨λhk=>(h'.2 D hD).1 (vm _ hk),(h'.2 D hD).2⟩
  ·exact h.2 D hD
def QBV(κ:Ctx)(N:Nat)(Q:Exit->S->Prop):Exit->Act->World->Prop:=λe a w=>∃l g σ,κ.fr l/\Q e σ/\St (κ.add l) N g σ a w
theorem QBV.of{e:Exit}(hq:Q e σ)(hst:St κ N g σ a w):QBV κ N Q e a w:=⟨[],g,σ,κ.fr_nil,hq,hst⟩
theorem QBV.app{e:Exit}{l:List Nat}(h:κ.fr l)(hp:QBV (κ.add l) N Q e a w):QBV κ N Q e a w:=by
 obtain⟨l',g,σ,h',hq,hst⟩:=hp;exact⟨l'++l,g,σ,Ctx.fr_app h h',hq,by rw[<-Ctx.add_add];exact hst⟩
theorem QBV.mono{Q':Exit->S->Prop}{e:Exit}(hp:QBV κ N Q e a w)(h:∀e σ,Q e σ->Q' e σ):QBV κ N Q' e a w:=by
 obtain⟨l,g,σ,h',hq,hst⟩:=hp;exact⟨l,g,σ,h',h _ _ hq,hst⟩
def Zs:Code->Bool
 | .rangeFunc .. =>false
 | .seq a b| .cond _ a b=>Zs a&&Zs b
 | .block _ c| .loop c| .scope c=>Zs c
 |_=>true
def WC(P:Program)(N:Nat)(c:Code)(Q:Exit->S->Prop)(σ:S):Prop:=
 ∀κ g a w,(κ.rd=none\/Zs c=true)->St κ N g σ a w->c.wpIn (wd κ.rd) 0 P (QBV κ N Q) a w
structure Q7(P:Program)(N:Nat)(c:Code)(Q:Exit->S->Prop)(σ:S):Prop where
 run:WC P N (.loop c) Q σ
structure Ya(P:Program)(ti:Nat->Option Ty)(N:Nat)(g:Operand)(ps:Array Tmp)(asg body:Code)(Q:Exit->S->Prop)(σ:S):Prop where
 run:WC P N (.rangeFunc g ps asg body) Q σ
structure QX(P:Program)(ti:Nat->Option Ty)(N:Nat)(id:Nat)(ops:List Oper)(σ:S)(K:S->Prop):Prop where
 run:WC P N (.region id ops.toArray true) (λe σ'=>match e with| .normal=>K σ'|_=>False) σ
def vc(P:Program)(ti:Nat->Option Ty)(N:Nat):Code->(Exit->S->Prop)->S->Prop
 | .skip,Q,σ=>Q .normal σ
 | .region id ops d,Q,σ=>bif d then QX P ti N id ops.toList σ (λσ'=>Q .normal σ')else Zp P ti N ops.toList ops.toList σ λσ'=>Q .normal σ'
 | .seq a b,Q,σ=>vc P ti N a (λe σ'=>match e with| .normal=>vc P ti N b Q σ'|e=>Q e σ') σ
 | .cond c x y,Q,σ=>match ρ σ.sl c with
  |some (.d (.bl b))=>Spl b (vc P ti N x Q σ) (vc P ti N y Q σ)
  |_=>False
 | .block id c,Q,σ=>vc P ti N c (λe σ'=>match e with| .exit i=>bif Nat.beq i id then Q .normal σ' else Q (.exit i) σ'|e=>Q e σ') σ
 | .exit id,Q,σ=>Q (.exit id) σ
 | .ret,Q,σ=>Q .ret σ
 | .loop c,Q,σ=>Q7 P N c Q σ
 | .rangeFunc f ps asg body,Q,σ=>Ya P ti N f ps asg body Q σ
 |_,_,_=>False
theorem Z0(hti:QU P ti):∀(c:Code) (Q:Exit->S->Prop) (σ:S),vc P ti N c Q σ->WC P N c Q σ
 | .skip,Q,σ,h=>λκ g a w _ hst=>wpIn_skip (.of h hst)
 | .region id ops d,Q,σ,h=>λκ g a w hr hst=>by
  cases d with
  |true=>
   have:=(h:QX P ti N id ops.toList σ (λσ'=>Q .normal σ')).run κ g a w hr hst;simp only[vf]at this;refine wpIn_mono this λe a' w' hp=>hp.mono λe σ hq=>?_;cases e with
   |normal=>exact hq
   |_=>exact hq.elim
  |false=>
   refine wpIn_region ?_;have:=Xc (Q:=QBV κ N Q) hti ops.toList 0 σ (λσ'=>Q .normal σ') κ g a w (λj=>by simp) h hst (λg' σ' a' w' hK hst'=> .of hK hst');rw[List.range_eq_range'];simpa using this
 | .seq x y,Q,σ,h=>λκ g a w hr hst=>by
  refine wpIn_seq (wpIn_mono (Z0 hti x _ σ h κ g a w (hr.imp id λh=>by simp only[Zs,zf]at h;exact h.1) hst) λe a' w' ⟨l,g',σ',hl,hq,hst'⟩=>?_);cases e with
  |normal=>exact wpIn_mono (Z0 hti y Q σ' hq (κ.add l) g' a' w' (hr.imp id λh=>by simp only[Zs,zf]at h;exact h.2) hst') λe a w hp=>hp.app hl
  |_=>exact⟨l,g',σ',hl,hq,hst'⟩
 | .cond c x y,Q,σ,h=>λκ g a w hr hst=>by
  simp only[vc]at h;split at h
  ·rename_i b hc;have hv:=Jh (ρ_ok hst.sl hc);cases b with
   |true=>exact wpIn_cond_true hv (Z0 hti x Q σ (h.t rfl) κ g a w (hr.imp id λh=>by simp only[Zs,zf]at h;exact h.1) hst)
   |false=>exact wpIn_cond_false hv (Z0 hti y Q σ (h.f rfl) κ g a w (hr.imp id λh=>by simp only[Zs,zf]at h;exact h.2) hst)
  ·exact h.elim
 | .block id c,Q,σ,h=>λκ g a w hr hst=>by
  refine wpIn_block (wpIn_mono (Z0 hti c _ σ h κ g a w hr hst) λe a' w' ⟨l,g',σ',hl,hq,hst'⟩=>?_);cases e with
  |exit i=>
   simp only[Exit.inBlock];by_cases hi:i=id
   ·subst hi;rw[if_pos rfl];simp only[wc,cond_true]at hq;exact⟨l,g',σ',hl,hq,hst'⟩
   ·rw [if_neg hi];simp only[Qy hi,cond_false]at hq;exact⟨l,g',σ',hl,hq,hst'⟩
  |_=>exact⟨l,g',σ',hl,hq,hst'⟩
 | .exit id,Q,σ,h=>λκ g a w _ hst=>wpIn_exit (.of h hst)
 | .ret,Q,σ,h=>λκ g a w _ hst=>wpIn_ret (.of h hst)
 | .loop c,Q,σ,h=>(h:Q7 P N c Q σ).run
 | .rangeFunc f ps asg body,Q,σ,h=>(h:Ya P ti N f ps asg body Q σ).run
 | .scope c,Q,σ,h=>h.elim
 | .label l,Q,σ,h=>h.elim
 | .goto l,Q,σ,h=>h.elim
 | .refuse s,Q,σ,h=>h.elim
structure Ent(σ τ:S):Prop where
 sl:∀p∈τ.sl,look p.1 σ.sl=some p.2\/p.2= .junk
 mem:∀p∈τ.mem,look p.1 σ.mem=some p.2
 ok:τ.ok=true
end
end Go.Sy
