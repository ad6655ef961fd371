/- A computing verification layer for data, proved sound over the library: what a body comes to, by its literal code. Conditions: none. -/
import Derived.WalkKit
import Derived.Laws.CopyRow
import Derived.RangeFuncLeaves
import Derived.RangeFuncRecord
import Derived.OrdersIn
import Derived.LoopNIn
import Derived.Laws.IdiomStrings
import Derived.Laws.StructEq
import Derived.Lib.Builder
import Derived.Lib.UnsafeStr
set_option maxRecDepth 100000
set_option linter.all false
namespace Go.Sy
def za:= @Option.some.inj
def zb:= @List.length_map
def ze:= @List.all_eq_true
def zf:= @Bool.and_eq_true
def zg:= @Go.Result.andThen_ok
def zh:= @Nat.eq_of_beq_eq_true
def zi:= @List.mem_cons
def zj:= @List.getElem?_eq_getElem
def zk:= @List.mem_cons_of_mem
def zm:= @List.getElem_mem
def zo:= @List.mem_cons_self
def zp:= @Go.Sem.run_bind
def zq:= @Go.Sem.run_pure
def zr:= @List.getD_eq_getElem?_getD
def zt:= @Nat.le_refl
def zu:= @List.length_append
def zw:= @Nat.mul_le_mul_right
def zx:= @List.getElem_append_left
def zy:= @List.length_take
def z1:= @List.getElem_map
def z2:= @Nat.add_mul
def z6:= @List.getElem?_eq_some_iff
def z7:= @Nat.zero_le
def z8:= @List.take_of_length_le
def ya:= @List.mem_of_getElem?
def yb:= @List.getElem_append_right
def yc:= @Nat.blt_eq
def yd:= @List.mem_append
def ye:= @List.map_append
def yf:= @List.mem_map
def yg:= @Nat.le_of_ble_eq_true
def yh:= @Go.World.putObj_heap_other
def yj:= @Nat.lt_or_ge
def ym:= @List.length_drop
def yo:= @Option.some.injEq
def yq:= @List.length_cons
def yr:= @List.mem_singleton
def yv:= @List.getElem?_map
def yw:= @Bool.false_eq_true
def yx:= @List.length_eq_zero_iff
def yy:= @List.mem_iff_getElem
def y3:= @Nat.le_succ
def y4:= @List.append_nil
def y5:= @Nat.zero_add
def y6:= @Nat.lt_succ_self
def y9:= @List.all_cons
def xc:= @List.length_singleton
def xd:= @List.mem_range
def xf:= @List.nil_append
def xg:= @List.mem_of_mem_take
def xh:= @Array.getElem?_eq_none
def xj:= @List.length_range
def xl:= @List.getElem_take
def xm:= @List.getElem_drop
def xo:= @Prod.mk.injEq
def xq:= @List.not_mem_nil
def xr:= @List.all_nil
def xv:= @List.length_nil
def xw:= @Array.getElem?_push
def xx:= @List.mem_of_mem_drop
def xy:= @Nat.le_trans
def x4:= @List.append_assoc
def x5:= @List.getElem_range
def x6:= @Nat.add_zero
def x7:= @List.take_length
def x8:= @Bool.eq_iff_iff
def x9:= @Array.size_append
def wb:= @List.getElem?_take
def wc:= @Nat.beq_refl
def wg:= @Array.getElem_append_left
def wh:= @Bool.and_true
def wj:= @Bool.or_eq_true
def wl:= @Nat.add_assoc
def wm:= @Nat.lt_succ_of_lt
def wn:= @Go.MapKept.run_getObj_map
def wo:= @List.getElem?_eq_none
def wp:= @List.getElem_cons_zero
def wq:= @Array.length_toList
def wv:= @Array.getD_eq_getD_getElem?
def ww:= @Go.Sem.run_ite
def wx:= @Bool.not_eq_true'
def wy:= @Option.bind_eq_some_iff
def wz:= @Bool.true_and
def w8:= @List.map_cons
def w9:= @List.nodup_nil
def vb:= @Ne.symm
def vd:= @Array.getElem?_append_left
def vf:= @Array.toArray_toList
def vg:= @List.ext_getElem
def vh:= @List.drop_eq_nil_of_le
def vj:= @List.drop_eq_getElem_cons
def vl:= @List.drop_zero
def vm:= @List.mem_append_right
def vn:= @List.all_append
def vo:= @List.nodup_cons
def vp:= @List.range_succ
def vr:= @List.filter_append
def vt:= @List.getElem?_drop
def vu:= @List.mem_append_left
def vv:= @Go.MapKept.run_checkKey
def vw:= @Bool.not_true
def vy:= @List.flatten_cons
def vz:= @List.foldl_append
def v6:= @List.getElem_of_mem
def v7:= @Go.MapKept.run_findKey
def v8:= @List.length_set
def ua:= @List.take_append_of_le_length
def ub:= @List.getElem_set
def uc:= @List.mem_filter
def ud:= @Nat.min_eq_left
def ug:= @Option.map_some
def uh:= @List.getElem_cons_succ
def ui:= @List.set_eq_take_append_cons_drop
def uj:= @Nat.mul_comm
def uk:= @Go.World.putObj_heap_same
def ul:= @Bool.false_or
def um:= @List.getElem?_append_right
def un:= @Array.getElem?_eq_some_iff
def uo:= @List.map_toArray
def uq:= @List.map_replicate
def ur:= @Nat.div_lt_iff_lt_mul
def ut:= @List.pairwise_iff_getElem
def uv:= @List.mem_or_eq_of_mem_set
def uw:= @List.map_nil
def ux:= @Array.eq_empty_of_size_eq_zero
def uy:= @List.eq_nil_iff_forall_not_mem
def uz:= @List.map_take
def u0:= @Go.World.block_lt_of_cell?
def u4:= @Bool.not_false
def u5:= @Option.map_eq_some_iff
def u6:= @Nat.mod_lt
def u7:= @Array.getElem?_append_right
def u9:= @List.length_filter_le
def kf:= @List.length_replicate
def kg:= @Nat.div_add_mod
def kh:= @Go.Oper.semAt_eq
def ki:= @Array.getElem_append_right
def kj:= @Int.toNat_natCast
def km:= @List.mem_of_find?_eq_some
def ko:= @List.getElem?_append_left
def kp:= @Option.getD_some
def kq:= @List.map_map
def kr:= @Nat.zero_mul
def ku:= @List.getElem?_cons_zero
def kv:= @List.map_drop
def kw:= @List.find?_eq_some_iff_getElem
def ky:= @List.any_append
def ja:= @Go.Result.ok.injEq
def jb:= @Go.MapKept.run_setObj_map
def jc:= @List.drop_append_of_le_length
def jd:= @List.dropWhile_append_of_pos
def je:= @List.length_mergeSort
def jf:= @List.singleton_append
def jg:= @List.all_reverse
def jh:= @List.drop_append
def ji:= @Nat.le_add_right
def jj:= @Option.bind_some
def jl:= @List.dropWhile_cons_of_neg
def jm:= @Int.tdiv_eq_ediv_of_nonneg
def jn:= @Prod.mk.inj
def jo:= @List.drop_succ_cons
def jp:= @List.length_pos_iff
def jq:= @List.drop_replicate
def jr:= @List.map_congr_left
def js:= @List.getElem?_range
def jt:= @Array.mapM_eq_mapM_toList
def ju:= @Nat.eq_zero_or_pos
def jv:= @List.mem_replicate
def jw:= @Int.add_sub_cancel
def jx:= @Nat.sub_self
def jy:= @Option.isSome_iff_exists
def jz:= @List.length_erase_of_mem
def j6:= @Array.setIfInBounds_comm
def j7:= @Go.IntWalk.i64_in
def j8:= @List.getElem?_set
def j9:= @Nat.one_mul
def qb:= @List.drop_of_length_le
def qc:= @List.take_nil
def qd:= @Bool.or_false
def qe:= @List.cons_append
def qf:= @List.nodup_range
def qg:= @List.take_append_drop
def qh:= @ByteArray.data_append
def qi:= @Array.getElem?_modify
def qj:= @UInt8.toNat_inj
def qk:= @Nat.sub_zero
def ql:= @Nat.add_comm
def qm:= @Option.map_none
def qn:= @Array.getElem_range
def qo:= @List.dropLast_concat_getLast
def qp:= @Nat.mul_one
def qq:= @List.find?_eq_none
def qs:= @List.mem_mergeSort
def qt:= @Array.getElem_setIfInBounds
def qu:= @Go.Lib.run_unsafeSliceData_nil
def qv:= @List.dropWhile_cons_of_pos
def qw:= @Int.tmod_eq_emod_of_nonneg
def qx:= @ByteArray.ext
def qy:= @Nat.le_of_mul_le_mul_right
def qz:= @Nat.eq_of_mul_eq_mul_right
def Wa:= @List.all_eq_false
def Wb:= @Nat.le_succ_of_le
def Wc:= @Array.getElem_map
def Wd:= @Go.World.putObj_size
def We:= @List.size_toArray
def Wf:= @List.eq_of_mem_replicate
def Wg:= @List.drop_length
def Wh:= @Nat.succ_le_succ
def Wi:= @List.any_eq_true
def Wj:= @Array.size_setIfInBounds
def Wl:= @Array.toList_map
def Wm:= @Nat.mod_eq_of_lt
def Wn:= @Go.Region.free_spec
def Wo:= @Nat.le_of_lt
def Wp:= @Go.ChangeMaps.modify_eq_set
def Wq:= @List.pairwise_mergeSort
def Ws:= @List.filter_cons_of_pos
def Wt:= @List.filter_cons_of_neg
def Wu:= @List.getElem?_cons_succ
def Wv:= @List.getElem?_replicate
def Ww:= @List.count_cons
def Wx:= @List.take_left'
def Wy:= @List.find?_cons
def Wz:= @List.forIn_cons
def W0:= @List.getElem_replicate
def W1:= @List.getElem_singleton
def W2:= @Nat.sub_sub
def W3:= @Bool.and_eq_false_iff
def W4:= @UInt8.lt_iff_toNat_lt
def W5:= @Bool.and_assoc
def W6:= @Nat.mul_le_mul
def W7:= @Nat.ble_eq_true_of_le
def W8:= @UInt8.toNat_lt
def W9:= @Eq.trans
def Va:= @List.length_dropLast
def Vb:= @Decidable.of_not_not
def Vc:= @Go.World.alloc_heap_new
def Vd:= @Array.getElem_toList
def Ve:= @List.flatten_append
def Vf:= @List.filterMap_cons
def Vg:= @Array.toList_modify
def Vh:= @Iff.trans
def Vi:= @Bool.true_or
def Vj:= @List.map_set
def Vk:= @Bool.or_true
def Vl:= @Int.le_refl
def Vm:= @Nat.sub_mul
def Vn:= @Go.Sem.run_map
theorem ai{a b:Prop}(x:a)(y:b):a/\b:=And.intro x y
variable {n m sz i m' n' t k nx off size f fo ft cap t' s zz i0:Nat}
theorem bll(h:Nat.ble n m=true):n<=m:=yg h
inductive D where
 |bl(b:Bool)
 |it(k:IntKind)(n:Int)
 |st(l:List UInt8)
 |ot(v:Value)
 |fs(sz:Nat)(es:List (List D))
 |fp(k:Nat)(cs:List D)
 |an
inductive AV where
 |d(x:D)
 |dg(k:Nat)(cs:List D)
 |ag(k:Nat)(cs:List AV)
 |tup(vs:List AV)
 |ptr(n off:Nat)
 |ms(sz n off len cap:Nat)
 |ts(sz:Nat)(es:List (List D))(n:Nat)
 |tg(sz:Nat)(es:List (List D))
 |nl(sz:Nat)
 |sd(es:List (List D))(n:Nat)
 |fn(f:Fn)(first cap:List AV)
 |yld(n:Nat)
 |vx(sz n i len:Nat)
 |vq(sz n k off:Nat)
 |mp(n:Nat)
 |jk
 |junk
inductive Ob where
 |cells(size:Nat)(c:List AV)
 |tail(t:Nat)(b:Bool)
 |vec(t sz:Nat)(es:List (List D))(f:Bool)
 |tag(m t:Nat)
 |frame(sz:Nat)(l:List (Nat×AV))
 |loop(k:Nat)(ps:Array Nat)(asg body:Code)(st:LoopState)(pd:Option Code)
 |mp(b ag:Bool)(tp:List D)(l:List (List D×D))
structure S where
 sl:List (Nat×AV)
 mem:List (Nat×Ob)
 nx:Nat
def look{α:Type}(k:Nat):List (Nat×α)->Option α
 |[]=>none
 |(a,b)::t=>bif Nat.beq k a then some b else look k t
structure Gh where
 F:Nat->Nat->Option Value
 blk:Nat->Nat
 hi:Nat->Nat
 cp:Nat->Nat
 has:Nat->Bool
inductive DR(F:Nat->Nat->Option Value):D->Value->Prop
 |bl(b:Bool):DR F (.bl b) (.bool b)
 |it(k:IntKind)(n:Int):DR F (.it k n) (.int k n)
 |st(l:List UInt8):DR F (.st l) (.string ⟨l.toArray⟩)
 |ot(v:Value)(h:v.oneCell'=true):DR F (.ot v) v
 |fs0(sz:Nat)(a:Option Addr)(cap:Nat):DR F (.fs sz []) (.slice a 0 cap)
 |fs(sz:Nat)(es:List (List D))(b off len cap:Nat)(vs:Nat->Nat->Value)(hl:es.length=len)(hc:len<=cap)
   (hs:∀i (h:i<es.length),es[i].length=sz) (hF:∀i j,i<len->j<sz->F b (off+i*sz+j)=some (vs i j))
   (hr:∀i (h:i<es.length) j (hj:j<es[i].length),DR F es[i][j] (vs i j)):DR F (.fs sz es) (.slice (some ⟨b,off,none⟩) len cap)
 |fp(k:Nat)(cs:List D)(b off:Nat)(vs:Nat->Value)(hl:cs.length=k)(hF:∀j,j<k->F b (off+j)=some (vs j))
   (hr:∀j (h:j<cs.length),DR F cs[j] (vs j)):DR F (.fp k cs) (.pointer (some ⟨b,off,none⟩))
 |an(v:Value)(h:v.oneCell'=true):DR F .an v
def AV.sc:AV->Bool
 | .dg .. | .ag .. | .tup .. | .junk=>false
 |_=>true
def QH6(g:Gh)(sz n i:Nat)(ad:Option Addr)(c:Nat):Prop:=
 (g.has n=true->(i+c)*sz=g.cp n)/\(g.has n=false->i=0/\c=0)/\(0<c->ad=some ⟨g.blk n,g.hi n+i*sz,none⟩)
variable {g g':Gh}
variable {ad:Option Addr}
theorem QH6.pos{c:Nat}(h:QH6 g sz n i ad c)(hc:0<c):g.has n=true/\ad=some ⟨g.blk n,g.hi n+i*sz,none⟩/\(i+c)*sz=g.cp n:=by
 obtain⟨h1,h2,h3⟩:=h;cases hh:g.has n with
 |true=>exact⟨rfl,h3 hc,h1 hh⟩
 |false=>have:=(h2 hh).2;omega
inductive AVR(g:Gh):AV->Value->Prop
 |d(x:D)(v:Value)(h:DR g.F x v):AVR g (.d x) v
 |dg(k:Nat)(cs:List D)(vs:Array Value)(h1:vs.size=k)(h2:cs.length=k)(h:∀j (h:j<cs.length),DR g.F cs[j] (vs.getD j undef)):AVR g (.dg k cs) (.agg vs)
 |ag(k:Nat)(cs:List AV)(vs:Array Value)(h1:vs.size=k)(h2:cs.length=k)(h3:∀j (h:j<cs.length),cs[j].sc=true)
   (h:∀j (h:j<cs.length),AVR g cs[j] (vs.getD j undef)):AVR g (.ag k cs) (.agg vs)
 |tup(cs:List AV)(vs:Array Value)(h1:vs.size=cs.length)(h:∀j (h:j<cs.length),AVR g cs[j] (vs.getD j undef)):AVR g (.tup cs) (.tuple vs)
 |ptr(n off:Nat):AVR g (.ptr n off) (.pointer (some ⟨g.blk n,off,none⟩))
 |ms(sz n off len cap:Nat)(ad:Option Addr)(had:0<cap->ad=some ⟨g.blk n,off,none⟩)(hc:len<=cap):AVR g (.ms sz n off len cap) (.slice ad len cap)
 |ts0(sz:Nat)(es:List (List D))(n:Nat)(a:Option Addr)(len:Nat)(hl:es.length=len)(hd:DR g.F (.fs sz es) (.slice a len len))(hh:g.has n=false)(hz:g.hi n=0->es=[]/\a=none):AVR g (.ts sz es n) (.slice a len len)
 |ts(sz:Nat)(es:List (List D))(n off len cap:Nat)(h0:0<sz)(hn:g.has n=true)(hd:DR g.F (.fs sz es) (.slice (some ⟨g.blk n,off,none⟩) len cap))(hl:es.length=len)(hc:len<=cap)
   (h1:off+len*sz=g.hi n) (h2:off+cap*sz=g.cp n) (hpos:0<len):AVR g (.ts sz es n) (.slice (some ⟨g.blk n,off,none⟩) len cap)
 |tg(sz:Nat)(es:List (List D))(a:Option Addr)(len:Nat)(hl:es.length=len)(hd:DR g.F (.fs sz es) (.slice a len len)):AVR g (.tg sz es) (.slice a len len)
 |nl(sz:Nat):AVR g (.nl sz) (.slice none 0 0)
 |sd(es:List (List D))(n:Nat)(p:Option Addr)(h:es≠[]->∃off len cap,p=some ⟨g.blk n,off,none⟩/\g.has n=true/\DR g.F (.fs 1 es) (.slice p len cap)/\es.length=len/\off+len=g.hi n):AVR g (.sd es n) (.pointer p)
 |fn(f:Fn)(first cap:List AV)(vs ws:Array Value)(h1:vs.size=first.length)(h2:ws.size=cap.length)(h3:∀j (h:j<first.length),AVR g first[j] (vs.getD j undef))
   (h4:∀j (h:j<cap.length),AVR g cap[j] (ws.getD j undef)):AVR g (.fn f first cap) (.func f vs ws)
 |yld(n:Nat):AVR g (.yld n) (.func (.yield (g.blk n)) #[] #[])
 |vx(sz n i len:Nat)(ad:Option Addr)(c:Nat)(hc:len<=c)(had:QH6 g sz n i ad c):AVR g (.vx sz n i len) (.slice ad len c)
 |vq(sz n k off:Nat)(h:g.has n=true):AVR g (.vq sz n k off) (.pointer (some ⟨g.blk n,g.hi n+k*sz+off,none⟩))
 |mp(n:Nat)(r:Option Nat)(h:r=if g.has n=true then some (g.blk n)else none):AVR g (.mp n) (.map r)
 |jk(v:Value)(h:v.oneCell'=true):AVR g .jk v
 |junk(v:Value):AVR g .junk v
def AV.lt0(m:Nat):AV->Bool
 | .d _| .dg .. | .tg .. | .nl _| .jk| .junk=>true
 | .ptr n _| .ms _ n _ _ _| .ts _ _ n| .yld n| .sd _ n| .vx _ n _ _| .vq _ n _ _| .mp n=>Nat.blt n m
 |_=>false
def AV.lt1(m:Nat):AV->Bool
 | .fn _ a b=>a.all (AV.lt0 m)&&b.all (AV.lt0 m)
 |v=>v.lt0 m
def AV.lt2(m:Nat):AV->Bool
 | .ag _ cs=>cs.all (AV.lt1 m)
 |v=>v.lt1 m
def AV.lt(m:Nat):AV->Bool
 | .tup vs=>vs.all (AV.lt2 m)
 |v=>v.lt2 m
def Ob.lt(m:Nat):Ob->Bool
 | .cells _ c=>c.all (AV.lt1 m)
 | .tail .. =>true
 | .vec .. =>true
 | .tag k _=>Nat.blt k m
 | .frame _ l=>l.all λp=>p.2.lt m
 | .loop k .. =>Nat.blt k m
 | .mp .. =>true
def S.ok(σ:S):Bool:=σ.sl.all (λp=>p.2.lt σ.nx)&&σ.mem.all (λp=>Nat.blt p.1 σ.nx&&p.2.lt σ.nx)
def GB:List Nat:=[]
def GOK(F:Nat->Nat->Option Value):Prop:=∀b∈GB,∃m,F b 0=some (.int .i64 m)
variable {F F':Nat->Nat->Option Value}
theorem GOK.mono(h:GOK F)(hF:∀b o v,F b o=some v->F' b o=some v):GOK F':=λb hb=>let ⟨m,e⟩:=h b hb;⟨m,hF _ _ _ e⟩
structure Ctx where
 w0:World
 F0:Nat->Nat->Option Value
 mod:List Nat
 rd:Option Nat
 df:List Nat
 dfb:List Nat
 sv:Nat->Array Value
 lb:Nat->Nat
 gl:GOK F0
def zF:Nat->Nat->Option Value:=λ_ _=>some (.int .i64 0)
theorem QTx:GOK zF:=λ_ _=>⟨0,rfl⟩
def kz(w:World):Ctx:=⟨w,zF,[],none,[],[],λ_=> #[],λ_=>0,QTx⟩
def ZM(g:Gh)(w:World)(n t sz:Nat)(es:List (List D))(f:Bool):Prop:=
 (∀x∈es,x.length=sz)/\(g.has n=false->es=[])/\(g.has n=true->∃arr:Array Value,w.heap[g.blk n]? =some (.cells arr t (0,0))/\g.hi n+g.cp n<=arr.size/\es.length*sz<=g.cp n/\
  (∀i (h:i<es.length) j (hj:j<es[i].length),DR g.F es[i][j] (arr.getD (g.hi n+i*sz+j) undef))/\(∀o,g.F (g.blk n) o=none)/\(f=true->es.length*sz=g.cp n)/\∀j,j<g.cp n->(arr.getD (g.hi n+j) undef).oneCell'=true)
def JP:D->D->Bool
 | .bl _,.bl _=>true
 | .it k _,.it l _=>decide (k=l)
 | .st _,.st _=>true
 |_,_=>false
def Q1:List D->List D->Bool
 |[],[]=>true
 |a::x,b::y=>JP a b&&Q1 x y
 |_,_=>false
def Xz(F:Nat->Nat->Option Value)(ag:Bool)(tp cs:List D)(v:Value):Prop:=
 Q1 tp cs=true/\if ag=true then∃vs:Array Value,v= .agg vs/\vs.size=cs.length/\∀j (h:j<cs.length),DR F cs[j] (vs.getD j undef)else∃x,cs=[x]/\DR F x v
def ZQ(g:Gh)(w:World)(n:Nat)(b ag:Bool)(tp:List D)(l:List (List D×D)):Prop:=
 (b=true->g.has n=true)/\(g.has n=false->l=[])/\(g.has n=true->∃es:Array MapEntry×Nat,w.heap[g.blk n]? =some (.map es.1 es.2)/\es.1.size=l.length/\(∀i (h:i<l.length),Xz g.F ag tp l[i].1 (es.1.getD i default).key/\DR g.F l[i].2 (es.1.getD i default).val)/\(∀o,g.F (g.blk n) o=none)/\es.2=es.1.size/\∀i,i<es.1.size->(es.1.getD i default).born=i)
def Zv(κ:Ctx)(g:Gh)(w:World)(n:Nat):Ob->Prop
 | .cells size c=>∃arr T,w.heap[g.blk n]? =some (.cells arr T (0,0))/\arr.size=size/\c.length=size/\(∀j (h:j<c.length),c[j].sc=true)/\
   (∀j (h:j<c.length),AVR g c[j] (arr.getD j undef))/\∀o,g.F (g.blk n) o=none
 | .tail t b=>(g.has n=true->∃(arr:Array Value) (_:Unit),w.heap[g.blk n]? =some (.cells arr t (0,0))/\g.cp n<=arr.size/\g.hi n<=g.cp n/\∀o,g.hi n<=o->g.F (g.blk n) o=none)/\(b=true->g.has n=false->g.hi n=0)
 | .vec t sz es f=>ZM g w n t sz es f
 | .tag m t=>∃(arr:Array Value) (fz:Nat×Nat),w.heap[g.blk m]? =some (.cells arr t fz)
 | .frame sz l=>(∀m,sz=m+1->(κ.sv n).size=m)/\∀s v,look s l=some v->AVR g v ((κ.sv n).getD s undef)
 | .loop k ps asg body st pd=>g.blk n=κ.lb n/\∃fn D,w.heap[g.blk n]? =some (.loop {state:=st,pending:=pd,fn:=fn,tmps:=κ.sv k,params:=ps,assign:=asg,body:=body,defers:=D})
 | .mp b ag tp l=>ZQ g w n b ag tp l
def On(g:Gh)(mem:List (Nat×Ob))(n:Nat):Prop:=
 match look n mem with
 |none=>False
 |some (.cells ..)=>True
 |some (.tail ..)=>g.has n=true
 |some (.vec ..)=>g.has n=true
 |some (.tag ..)=>False
 |some (.frame ..)=>False
 |some (.loop ..)=>True
 |some (.mp ..)=>g.has n=true
def mark(D:Nat):Deferred:= {target:= .collected D,args:= #[]}
def wd(r:Option Nat):Fence:= {fn:=λ_=>True,depth:=none,alive:=false,round:=r}
structure Inv(κ:Ctx)(g:Gh)(mem:List (Nat×Ob))(w:World):Prop where
 frz:∀b o v,g.F b o=some v->w.cell? ⟨b,o,none⟩=some v
 obs:∀n o,look n mem=some o->Zv κ g w n o
 inj:∀n m,n≠m->On g mem n->On g mem m->g.blk n≠g.blk m
 size:κ.w0.heap.size<=w.heap.size
 pres:∀b,b<κ.w0.heap.size->b∉κ.mod->w.heap[b]? =κ.w0.heap[b]?
 own:∀n,On g mem n->κ.w0.heap.size<=g.blk n\/g.blk n∈κ.mod
 f0:∀b o v,κ.F0 b o=some v->g.F b o=some v
 fnew:∀b o v,g.F b o=some v->κ.F0 b o=some v\/κ.w0.heap.size<=b\/b∈κ.mod
 os:w.os=κ.w0.os
 tape:w.tape=κ.w0.tape
 output:w.output=κ.w0.output
 dfr:∀D∈κ.dfb,w.heap[D]? =some (.deferred (some []))
structure St(κ:Ctx)(N:Nat)(g:Gh)(σ:S)(a:Act)(w:World):Prop where
 size:a.tmps.size=N
 defers:a.defers=κ.df.map mark
 sl:∀k v,look k σ.sl=some v->AVR g v (a.tmps.getD k undef)
 inv:Inv κ g σ.mem w
 ok:σ.ok=true
structure Ext(m:Nat)(g g':Gh):Prop where
 F:∀b o v,g.F b o=some v->g'.F b o=some v
 blk:∀n,n<m->g'.blk n=g.blk n
 hi:∀n,n<m->g'.hi n=g.hi n
 cp:∀n,n<m->g'.cp n=g.cp n
 has:∀n,n<m->g'.has n=g.has n
theorem Ext.refl(m:Nat)(g:Gh):Ext m g g:=⟨λ_ _ _ h=>h,λ_ _=>rfl,λ_ _=>rfl,λ_ _=>rfl,λ_ _=>rfl⟩
theorem Ext.mono{a b:Gh}(h:Ext m a b)(hm:m'<=m):Ext m' a b:=
 ⟨h.F,λn x=>h.blk n (by omega),λn x=>h.hi n (by omega),λn x=>h.cp n (by omega),λn x=>h.has n (by omega)⟩
theorem DR.mono(hF:∀b o v,F b o=some v->F' b o=some v){x:D}{v:Value}(h:DR F x v):DR F' x v:=by
 induction h with
 |bl b=>exact .bl b
 |it k n=>exact .it k n
 |st l=>exact .st l
 |ot v h=>exact .ot v h
 |an v h=>exact .an v h
 |fs0 sz a cap=>exact .fs0 sz a cap
 |fs sz es b off len cap vs hl hc hs hF' hr ih=>exact .fs sz es b off len cap vs hl hc hs (λi j hi hj=>hF _ _ _ (hF' i j hi hj)) ih
 |fp k cs b off vs hl hF' hr ih=>exact .fp k cs b off vs hl (λj hj=>hF _ _ _ (hF' j hj)) ih
variable {ag b fl:Bool}
variable {tp cs:List D}
theorem Xz.mono(hF:∀b o v,F b o=some v->F' b o=some v){v:Value}(h:Xz F ag tp cs v):Xz F' ag tp cs v:=by
 obtain⟨h0,h⟩:=h;refine⟨h0,?_⟩;split at h
 ·obtain ⟨vs,e,hs,hv⟩:=h;rw[if_pos (by assumption)];exact⟨vs,e,hs,λj hj=>(hv j hj).mono hF⟩
 ·obtain ⟨x,e,hv⟩:=h;rw[if_neg (by assumption)];exact⟨x,e,hv.mono hF⟩
variable {w w':World}
theorem ZQ.mono{l:List (List D×D)}(h:ZQ g w n b ag tp l)(hF:∀b o v,g.F b o=some v->g'.F b o=some v)(hb:g'.blk n'=g.blk n)(hh:g'.hi n'=g.hi n)(hc:g'.cp n'=g.cp n)(hs:g'.has n'=g.has n)
  (hw:g.has n=true->w'.heap[g.blk n]? =w.heap[g.blk n]?) (hn:g.has n=true->∀o,g.F (g.blk n) o=none->g'.F (g.blk n) o=none):ZQ g' w' n' b ag tp l:=by
 obtain⟨h1,h2,h3⟩:=h;refine⟨λhx=>hs.trans (h1 hx),λhx=>h2 (hs.symm.trans hx),λhx=>?_⟩;have hx':=hs.symm.trans hx;obtain⟨es,q1,q2,q3,q4⟩:=h3 hx';exact⟨es,by rw[hb,hw hx'];exact q1,q2,λi hi=>⟨(q3 i hi).1.mono hF,(q3 i hi).2.mono hF⟩,λo=>by rw[hb];exact hn hx' o (q4.1 o),q4.2⟩
theorem AVR.mpr{v:Value}(eb:g'.blk n'=g.blk n)(eh:g'.has n'=g.has n)(h:AVR g (.mp n) v):AVR g' (.mp n') v:=by
 cases h with|mp _ r h=>exact .mp n' r (by rw[eb,eh];exact h)
variable {es:List (List D)}
theorem ZM.mono{f:Bool}(h:ZM g w n t sz es f)(hF:∀b o v,g.F b o=some v->g'.F b o=some v)(hb:g'.blk n=g.blk n)(hh:g'.hi n=g.hi n)(hc:g'.cp n=g.cp n)(hs:g'.has n=g.has n)
  (hw:g.has n=true->w'.heap[g.blk n]? =w.heap[g.blk n]?) (hn:g.has n=true->∀o,g.F (g.blk n) o=none->g'.F (g.blk n) o=none):ZM g' w' n t sz es f:=by
 obtain⟨h1,h2,h3⟩:=h;refine⟨h1,λhx=>h2 (hs.symm.trans hx),λhx=>?_⟩;have hx':=hs.symm.trans hx;obtain⟨arr,e1,e2,e3,e4,e5,e6,e7⟩:=h3 hx';refine⟨arr,by rw[hb,hw hx'];exact e1,by rw[hh,hc];exact e2,by rw[hc];exact e3,λi hi j hj=>by rw[hh];exact(e4 i hi j hj).mono hF,λo=>by rw[hb];exact hn hx' o (e5 o),λhf=>by rw[hc];exact e6 hf,λj hj=>by rw[hc]at hj;rw[hh];exact e7 j hj⟩
theorem DR.one{x:D}{v:Value}(h:DR F x v):v.oneCell'=true:=by
 cases h<;>first|rfl|assumption
theorem AVR.one{x:AV}{v:Value}(h:AVR g x v)(hs:x.sc=true):v.oneCell'=true:=by
 cases h with
 |d x v h=>exact h.one
 |dg=>cases hs
 |ag=>cases hs
 |tup=>cases hs
 |junk=>cases hs
 |jk _ h=>exact h
 |_=>rfl
variable {v:AV}
theorem AV.lt0_mono(h:v.lt0 m=true)(hm:m<=m'):v.lt0 m'=true:=by
 cases v<;>simp only[AV.lt0,yc]at h⊢ <;>first|trivial|omega
theorem AV.lt1_mono(h:v.lt1 m=true)(hm:m<=m'):v.lt1 m'=true:=by
 cases v with
 |fn f a b=>
  simp only[AV.lt1,ze,zf]at h⊢;exact⟨λx hx=>AV.lt0_mono (h.1 x hx) hm,λx hx=>AV.lt0_mono (h.2 x hx) hm⟩
 |_=>simp only[AV.lt1]at h⊢;exact AV.lt0_mono h hm
theorem AV.lt2_mono(h:v.lt2 m=true)(hm:m<=m'):v.lt2 m'=true:=by
 cases v with
 |ag k cs=>
  simp only[AV.lt2,ze]at h⊢;exact λx hx=>AV.lt1_mono (h x hx) hm
 |_=>simp only[AV.lt2]at h⊢;exact AV.lt1_mono h hm
theorem AV.lt_mono(h:v.lt m=true)(hm:m<=m'):v.lt m'=true:=by
 cases v with
 |tup cs=>
  simp only[AV.lt,ze]at h⊢;exact λx hx=>AV.lt2_mono (h x hx) hm
 |_=>simp only[AV.lt]at h⊢;exact AV.lt2_mono h hm
theorem AVR.ext0(he:Ext m g g'){x:AV}{v:Value}(hl:x.lt0 m=true)(h:AVR g x v):AVR g' x v:=by
 cases h with
 |d x v h=>exact .d x v (h.mono he.F)
 |dg k cs vs h1 h2 h=>exact .dg k cs vs h1 h2 λj hj=>(h j hj).mono he.F
 |ag=>cases hl
 |tup=>cases hl
 |fn=>cases hl
 |ptr n off=>
  simp only[AV.lt0,yc]at hl;rw[<-he.blk n hl];exact .ptr n off
 |ms sz n off len cap ad had hc=>
  simp only[AV.lt0,yc]at hl;exact .ms sz n off len cap ad (λh=>by rw[he.blk n hl];exact had h) hc
 |ts0 _ _ n a len hl1 hd hh hz=>
  simp only[AV.lt0,yc]at hl;exact .ts0 _ _ _ a len hl1 (hd.mono he.F) ((he.has n hl).trans hh) λh=>hz ((he.hi n hl).symm.trans h)
 |ts sz es n off len cap h0 hn hd hl' hc h1 h2 hpos=>
  simp only[AV.lt0,yc]at hl;rw[<-he.blk n hl]at hd⊢;exact .ts sz es n off len cap h0 ((he.has n hl).trans hn) (hd.mono he.F) hl' hc (h1.trans (he.hi n hl).symm) (h2.trans (he.cp n hl).symm) hpos
 |tg sz es a len hl' hd=>exact .tg sz es a len hl' (hd.mono he.F)
 |nl sz=>exact .nl sz
 |sd es n p h=>
  simp only[AV.lt0,yc]at hl;refine .sd es n p λhne=>?_;obtain⟨off,len,cap,k1,k2,k3,k4,k5⟩:=h hne;exact⟨off,len,cap,by rw[he.blk n hl];exact k1,(he.has n hl).trans k2,k3.mono he.F,k4,k5.trans (he.hi n hl).symm⟩
 |yld n=>
  simp only[AV.lt0,yc]at hl;rw[<-he.blk n hl];exact .yld n
 |mp n r h=>
  simp only[AV.lt0,yc]at hl;exact AVR.mpr (he.blk n hl) (he.has n hl) (.mp n r h)
 |vx sz n i len ad c hc had=>
  simp only[AV.lt0,yc]at hl;exact .vx sz n i len ad c hc (by unfold QH6;rw[he.has n hl,he.blk n hl,he.hi n hl,he.cp n hl];exact had)
 |vq sz n k off h=>
  simp only[AV.lt0,yc]at hl;rw[<-he.blk n hl,<-he.hi n hl];exact .vq sz n k off ((he.has n hl).trans h)
 |jk v h=>exact .jk v h
 |junk v=>exact .junk v
theorem AVR.ext1(he:Ext m g g'){x:AV}{v:Value}(hl:x.lt1 m=true)(h:AVR g x v):AVR g' x v:=by
 by_cases hx:∃f a b,x= .fn f a b
 ·obtain ⟨f,a,b,rfl⟩:=hx;cases h with
  |fn f x1 x2 vs ws h1 h2 h3 h4=>
   simp only[AV.lt1,ze,zf]at hl;exact .fn _ _ _ vs ws h1 h2 (λj hj=>(h3 j hj).ext0 he (hl.1 _ (zm hj))) (λj hj=>(h4 j hj).ext0 he (hl.2 _ (zm hj)))
 ·refine h.ext0 he ?_;cases x<;>first|exact hl|exact absurd ⟨_,_,_,rfl⟩ hx
theorem AVR.ext2(he:Ext m g g'){x:AV}{v:Value}(hl:x.lt2 m=true)(h:AVR g x v):AVR g' x v:=by
 by_cases hx:∃k cs,x= .ag k cs
 ·obtain ⟨k,cs,rfl⟩:=hx;cases h with
  |ag k cs vs h1 h2 h3 h=>
   simp only[AV.lt2,ze]at hl;exact .ag k cs vs h1 h2 h3 λj hj=>(h j hj).ext1 he (hl _ (zm hj))
 ·refine h.ext1 he ?_;cases x<;>first|exact hl|exact absurd ⟨_,_,rfl⟩ hx
theorem AVR.ext(he:Ext m g g'){x:AV}{v:Value}(hl:x.lt m=true)(h:AVR g x v):AVR g' x v:=by
 by_cases hx:∃cs,x= .tup cs
 ·obtain ⟨cs,rfl⟩:=hx;cases h with
  |tup cs vs h1 h=>
   simp only[AV.lt,ze]at hl;exact .tup cs vs h1 λj hj=>(h j hj).ext2 he (hl _ (zm hj))
 ·refine h.ext2 he ?_;cases x<;>first|exact hl|exact absurd ⟨_,rfl⟩ hx
theorem AV.lt_of_lt1(h:v.lt1 m=true):v.lt m=true:=by
 cases v<;>first|exact h|cases h
theorem Qb{α:Type}{l:List (Nat×α)}{x:α}(h:look k l=some x):(k,x)∈l:=by
 induction l with
 |nil=>cases h
 |cons p t ih=>
  obtain⟨a,b⟩:=p;simp only[look]at h;cases hk:Nat.beq k a with
  |true=>rw[hk]at h;simp only[cond_true,yo]at h;rw[zh hk,h];exact zo
  |false=>rw[hk]at h;simp only[cond_false]at h;exact zk _ (ih h)
theorem QC{α:Type}(k a:Nat)(b:α)(t:List (Nat×α)):look k ((a,b)::t)=if k=a then some b else look k t:=by
 simp only[look];by_cases h:k=a
 ·simp [h,wc]
 ·rw [if_neg h];have:Nat.beq k a=false:=by
   cases hk:Nat.beq k a with
   |true=>exact absurd (zh hk) h
   |false=>rfl
  simp[this]
variable {σ:S}
theorem S.ok_sl(h:σ.ok=true)(hk:look k σ.sl=some v):v.lt σ.nx=true:=by
 simp only[S.ok,zf,ze]at h;exact h.1 _ (Qb hk)
theorem S.ok_mem(h:σ.ok=true){v:Ob}(hk:look k σ.mem=some v):k<σ.nx/\v.lt σ.nx=true:=by
 simp only[S.ok,zf,ze,yc]at h;exact h.2 _ (Qb hk)
inductive Kd where
 |bool|int (k:IntKind)|string|slice (e:Nat)|arr (n e:Nat)|struct (fs:List (Nat×Nat))|ptr (e:Nat)|map (k e:Nat)|func|usafe|other
structure Ty where
 kd:Kd
 size:Nat
 bytes:Nat
 zero:List D
 cmp:Option (List D)
 pl:List (Nat×Nat)
def XU:TypeDesc->Kd
 | .bool=> .bool
 | .int k=> .int k
 | .string=> .string
 | .slice e=> .slice e
 | .array n e=> .arr n e
 | .struct fs=> .struct (fs.toList.map λf=>(f.offset,f.type))
 | .pointer e=> .ptr e
 | .map k e=> .map k e
 | .func .. => .func
 | .unsafePointer=> .usafe
 |_=> .other
def QFc(sz:Nat):Value->D
 | .bool b=> .bl b
 | .int k n=> .it k n
 | .string s=> .st s.data.toList
 | .slice none 0 0=> .fs sz []
 |v=> .ot v
def zl:List Value->List Nat->List D
 |[],_=>[]
 |v::t,h=>QFc (h.headD 0) v::zl t h.tail
def QFd(z:Option Value)(h:List Nat):List D:=
 match z with
 |some z=>bif z.cells.toList.all Value.oneCell' then zl z.cells.toList h else []
 |none=>[]
def slH(P:Program):Nat->Nat->List Nat
 |0,_=>[]
 |n+1,t=>match P.underlying t,P.info? t with
  |some (.slice e),_=>[match P.info? e with|some i=>i.size|none=>0]
  |some (.struct fs),_=>fs.toList.flatMap λf=>slH P n f.type
  |some (.array k e),_=>(List.replicate k (slH P n e)).flatten
  |_,some i=>List.replicate i.size 0
  |_,none=>[]
def toA:D->AV
 | .fs sz []=> .nl sz
 |x=> .d x
def QGd(K:Nat->Option (List D)):List Field->Nat->Option (List D)
 |[],_=>some []
 |f::r,o=>bif f.offset==o&&f.name != "_" then(match K f.type with
  |some l=>match QGd K r (o+l.length)with|some l'=>some (l++l')|none=>none
  |none=>none)else none
def QJW:Nat->List D->List D
 |0,_=>[]
 |n+1,l=>l++QJW n l
def QEO(P:Program):Nat->Nat->Option (List D)
 |0,_=>none
 |n+1,t=>match (match P.underlying t with
  |some .bool=>some [D.bl false]
  |some (.int k)=>some [D.it k 0]
  |some .string=>some [D.st []]
  |some (.struct fs)=>bif P.stoodInHeld t then none else QGd (QEO P n) fs.toList 0
  |some (.array len e)=>match QEO P n e with|some l=>some (QJW len l)|none=>none
  |_=>none),P.info? t with
  |some l,some i=>bif i.size==l.length then some l else none
  |_,_=>none
def QTy(P:Program):TypeDesc->Option (List (Nat×Nat))
 | .struct fs=>fs.toList.mapM λf=>(P.info? f.type).map λi=>(f.offset,i.size)
 |_=>some []
def YZ(P:Program)(t:Nat):Option Ty:=
 match P.info? t,P.underlying t with
 |some i,some u=>match QTy P u with
  |some pl=>some ⟨XU u,i.size,i.bytes,QFd i.zero (slH P 6 t),bif P.eqGuardType P.depth t then none else QEO P 6 t,pl⟩
  |none=>none
 |_,_=>none
def QU(P:Program)(ti:Nat->Option Ty):Prop:=∀t ty,ti t=some ty->YZ P t=some ty
structure QCY(P:Program)(t:Nat)(ty:Ty)(u:TypeDesc)(i:TypeInfo):Prop where
 und:P.underlying t=some u
 info:P.info? t=some i
 kd:XU u=ty.kd
 size:i.size=ty.size
 bytes:i.bytes=ty.bytes
 zero:QFd i.zero (slH P 6 t)=ty.zero
 cmp:ty.cmp=bif P.eqGuardType P.depth t then none else QEO P 6 t
 pl:QTy P u=some ty.pl
variable {P:Program}
variable {ty fty ety sty:Ty}
theorem QE(h:YZ P t=some ty):∃u i,QCY P t ty u i:=by
 unfold YZ at h;split at h
 ·rename_i i u hi hu;split at h
  ·rename_i pl hp;obtain rfl:=za h;exact⟨u,i,hu,hi,rfl,rfl,rfl,rfl,rfl,hp⟩
  ·cases h
 ·cases h
theorem ZE{i:TypeInfo}(h:P.info? t=some i)(w:World):(typeInfo t).run P w= .ok i w:=by
 simp[typeInfo,h]
theorem QV{i:TypeInfo}(h:P.info? t=some i)(w:World):(sizeOf t).run P w= .ok i.size w:=by
 simp[sizeOf,ZE h]
def Kd.agg:Kd->Bool
 | .arr .. | .struct .. =>true
 |_=>false
theorem Jt{u:TypeDesc}(h:P.underlying t=some u)(w:World):(isAgg t).run P w= .ok (XU u).agg w:=by
 simp only[isAgg,zp,run_underlying h,zg];cases u<;>rfl
theorem ZB(b off i:Nat):(⟨b,off,none⟩:Addr).add i=⟨b,off+i,none⟩:=by
 unfold Addr.add;split<;>simp_all
def QBw:Value->AV
 | .bool b=> .d (.bl b)
 | .int k n=> .d (.it k n)
 | .string s=> .d (.st s.data.toList)
 | .slice none 0 _=> .d (.fs 0 [])
 | .agg _| .tuple _=> .junk
 |v=> .d (.ot v)
theorem QH7(F:Nat->Nat->Option Value)(sz:Nat)(v:Value)(h:v.oneCell'=true):DR F (QFc sz v) v:=by
 unfold QFc;split
 ·exact .bl _
 ·exact .it _ _
 ·rename_i s;obtain⟨⟨l⟩⟩:=s;exact .st l
 ·exact .fs0 _ _ _
 ·exact .ot _ h
theorem QN2(g:Gh)(sz:Nat)(v:Value)(h:v.oneCell'=true):AVR g (toA (QFc sz v)) v:=by
 have h1:=QH7 g.F sz v h;unfold QFc at h1⊢;split
 ·exact .d _ _ (.bl _)
 ·exact .d _ _ (.it _ _)
 ·rename_i s;obtain⟨⟨l⟩⟩:=s;exact .d _ _ (.st l)
 ·exact .nl _
 ·exact .d _ _ (.ot _ h)
theorem QAM(x:D)(m:Nat):(toA x).lt1 m=true:=by unfold toA;split<;>rfl
theorem QEP(x:D):(toA x).sc=true:=by unfold toA;split<;>rfl
theorem Yo:∀(l:List Value) (h:List Nat),(zl l h).length=l.length
 |[],_=>rfl
 |v::t,h=>by simp[zl,Yo t]
theorem QJX:∀(l:List Value) (h:List Nat) (j:Nat) (hj:j<(zl l h).length) (hj':j<l.length),∃sz,(zl l h)[j]=QFc sz l[j]
 |v::t,h,0,_,_=>⟨_,rfl⟩
 |v::t,h,j+1,hj,hj'=>QJX t h.tail j (by simpa [zl]using hj) (by simpa using hj')
theorem QEQ(g:Gh)(v:Value):AVR g (QBw v) v:=by
 unfold QBw;split
 ·exact .d _ _ (.bl _)
 ·exact .d _ _ (.it _ _)
 ·rename_i s;obtain⟨⟨l⟩⟩:=s;exact .d _ _ (.st l)
 ·exact .d _ _ (.fs0 _ _ _)
 ·exact .junk _
 ·exact .junk _
 ·rename_i h1 h2 h3 h4 h5 h6;refine .d _ _ (.ot _ ?_);cases v<;>first|rfl|(exact absurd rfl (h5 _))|(exact absurd rfl (h6 _))
def ρ(sl:List (Nat×AV)):Operand->Option AV
 | .tmp t=>look t sl
 | .const v=>some (QBw v)
 | .func f=>some (.fn (.func f) [] [])
 | .global _=>none
theorem QJY(v:Value)(m:Nat):(QBw v).lt m=true:=by
 unfold QBw;split<;>rfl
variable {a:Act}
variable {x y:Operand}
theorem ρ_ok{sl:List (Nat×AV)}(h:∀k v,look k sl=some v->AVR g v (a.tmps.getD k undef))(hx:ρ sl x=some v):AVR g v (a.eval x):=by
 cases x with
 |tmp t=>exact h t v hx
 |const c=>obtain rfl:=za hx;exact QEQ g c
 |global _=>cases hx
 |func f=>obtain rfl:=za hx;exact .fn _ _ _ _ _ rfl rfl (λj hj=>by cases hj) (λj hj=>by cases hj)
theorem ρ_lt(hσ:σ.ok=true)(hx:ρ σ.sl x=some v):v.lt σ.nx=true:=by
 cases x with
 |tmp t=>exact S.ok_sl hσ hx
 |const c=>obtain rfl:=za hx;exact QJY c _
 |global _=>cases hx
 |func f=>obtain rfl:=za hx;rfl
def AV.isP:AV->Bool
 | .d _| .dg .. =>true
 | .tup vs=>vs.all fun| .d _| .dg .. =>true|_=>false
 |_=>false
def frzL:List AV->Option (List D)
 |[]=>some []
 | .d x::t=>match frzL t with|some l=>some (x::l)|none=>none
 | .ts sz es _::t=>match frzL t with|some l=>some (.fs sz es::l)|none=>none
 | .tg sz es::t=>match frzL t with|some l=>some (.fs sz es::l)|none=>none
 | .nl sz::t=>match frzL t with|some l=>some (.fs sz []::l)|none=>none
 | .mp _::t=>match frzL t with|some l=>some (.an::l)|none=>none
 | .jk::t=>match frzL t with|some l=>some (.an::l)|none=>none
 |_=>none
def AV.pure1:AV->Option AV
 | .d x=>some (.d x)
 | .dg k cs=>some (.dg k cs)
 | .ts sz es _=>some (.d (.fs sz es))
 | .tg sz es=>some (.d (.fs sz es))
 | .nl sz=>some (.d (.fs sz []))
 | .ag k cs=>match frzL cs with|some l=>some (.dg k l)|none=>none
 |_=>none
def pureL:List AV->Option (List AV)
 |[]=>some []
 |v::t=>match v.pure1,pureL t with|some x,some l=>some (x::l)|_,_=>none
def AV.pure:AV->Option AV
 | .tup vs=>match pureL vs with|some l=>some (.tup l)|none=>none
 |v=>v.pure1
theorem QAh{g:Gh}:∀ {l:List AV} {ds:List D},frzL l=some ds->ds.length=l.length/\∀(f:Nat->Value),(∀j (h:j<l.length),AVR g l[j] (f j))->∀j (h:j<ds.length),DR g.F ds[j] (f j)
 |[],ds,h=>by obtain rfl:=za h;exact⟨rfl,λ_ _ j hj=>by cases hj⟩
 |v::t,ds,h=>by
  have key:∃x l,ds=x::l/\frzL t=some l/\∀u,AVR g v u->DR g.F x u:=by
   cases v<;>simp only[frzL]at h<;>try cases h
   ·rename_i x;split at h
    ·rename_i l hl;obtain rfl:=za h;exact⟨_,_,rfl,hl,λu hu=>by cases hu;assumption⟩
    ·cases h
   ·rename_i sz es n;split at h
    ·rename_i l hl;obtain rfl:=za h;refine⟨_,_,rfl,hl,λu hu=>?_⟩;cases hu with
     |ts0=>assumption
     |ts=>assumption
    ·cases h
   ·rename_i sz es;split at h
    ·rename_i l hl;obtain rfl:=za h;exact⟨_,_,rfl,hl,λu hu=>by cases hu;assumption⟩
    ·cases h
   ·split at h
    ·rename_i l hl;obtain rfl:=za h;exact⟨_,_,rfl,hl,λu hu=>by cases hu;exact .fs0 _ _ _⟩
    ·cases h
   ·split at h
    ·rename_i l hl;obtain rfl:=za h;exact⟨_,_,rfl,hl,λu hu=> .an _ (hu.one rfl)⟩
    ·cases h
   ·split at h
    ·rename_i l hl;obtain rfl:=za h;exact⟨_,_,rfl,hl,λu hu=> .an _ (hu.one rfl)⟩
    ·cases h
  obtain⟨x,l,rfl,hl,hx⟩:=key;obtain⟨i1,i2⟩:=QAh (g:=g) hl;refine⟨by simp[i1],λf hf j hj=>?_⟩;cases j with
  |zero=>exact hx _ (hf 0 (by simp))
  |succ j=>exact i2 (λj=>f (j+1)) (λj hj=>hf (j+1) (by simpa using hj)) j (by simpa using hj)
variable {u:Value}
theorem Jf{r:AV}(h:v.pure1=some r)(hu:AVR g v u):AVR g r u:=by
 cases v<;>simp only[AV.pure1]at h<;>try cases h
 ·exact hu
 ·exact hu
 ·rename_i k cs;split at h
  ·rename_i l hl;obtain rfl:=za h;cases hu with
   |ag k cs vs h1 h2 h3 h4=>
    obtain⟨i1,i2⟩:=QAh (g:=g) hl;exact .dg _ _ _ h1 (i1.trans h2) λj hj=>i2 (λj=>vs.getD j undef) h4 j hj
  ·cases h
 ·cases hu with
  |ts0=>exact .d _ _ (by assumption)
  |ts=>exact .d _ _ (by assumption)
 ·cases hu;exact .d _ _ (by assumption)
 ·cases hu;exact .d _ _ (.fs0 _ _ _)
theorem QAi{r:AV}(h:v.pure1=some r):(∃x,r= .d x)\/∃k cs,r= .dg k cs:=by
 cases v<;>simp only[AV.pure1]at h<;>try cases h
 ·exact .inl ⟨_,rfl⟩
 ·exact .inr ⟨_,_,rfl⟩
 ·split at h
  ·obtain rfl:=za h;exact .inr ⟨_,_,rfl⟩
  ·cases h
 ·exact .inl ⟨_,rfl⟩
 ·exact .inl ⟨_,rfl⟩
 ·exact .inl ⟨_,rfl⟩
theorem QH8{g:Gh}:∀ {l r:List AV},pureL l=some r->r.length=l.length/\(∀(f:Nat->Value),(∀j (h:j<l.length),AVR g l[j] (f j))->∀j (h:j<r.length),AVR g r[j] (f j))/\∀x∈r,(∃y,x= .d y)\/∃k cs,x= .dg k cs
 |[],r,h=>by obtain rfl:=za h;exact⟨rfl,λ_ _ j hj=>(by cases hj),λx hx=>by cases hx⟩
 |v::t,r,h=>by
  simp only[pureL]at h;split at h
  ·rename_i x l hx hl;obtain rfl:=za h;obtain⟨i1,i2,i3⟩:=QH8 (g:=g) hl;refine⟨by simp[i1],λf hf j hj=>?_,λy hy=>?_⟩
   ·cases j with
    |zero=>exact Jf hx (hf 0 (by simp))
    |succ j=>exact i2 (λj=>f (j+1)) (λj hj=>hf (j+1) (by simpa using hj)) j (by simpa using hj)
   ·rcases zi.1 hy with rfl|hy
    ·exact QAi hx
    ·exact i3 y hy
  ·cases h
theorem QQC{r:AV}(h:v.pure=some r)(hu:AVR g v u):AVR g r u/\r.isP=true:=by
 have one:∀ {v r:AV} {u:Value},v.pure1=some r->AVR g v u->AVR g r u/\r.isP=true:=λh hu=>
  ⟨Jf h hu,by rcases QAi h with⟨x,rfl⟩|⟨k,cs,rfl⟩<;>rfl⟩
 cases v with
 |tup vs=>
  simp only[AV.pure]at h;split at h
  ·rename_i l hl;obtain rfl:=za h;obtain⟨i1,i2,i3⟩:=QH8 (g:=g) hl;cases hu with
   |tup cs us h1 h2=>
    refine⟨.tup _ _ (h1.trans i1.symm) λj hj=>i2 (λj=>us.getD j undef) h2 j hj,?_⟩;simp only[AV.isP,ze];intro x hx;rcases i3 x hx with⟨y,rfl⟩|⟨k,cs,rfl⟩<;>rfl
  ·cases h
 |_=>exact one (by simpa only[AV.pure]using h) hu
theorem QAN(h:v.isP=true)(m:Nat):v.lt m=true:=by
 cases v<;>first|rfl|(simp[AV.isP]at h;done)|skip
 rename_i vs;simp only[AV.isP,ze]at h;simp only[AV.lt,ze];intro x hx;have:=h x hx;cases x<;>first|rfl|simp at this
theorem Zw(hF:∀b o v,g.F b o=some v->g'.F b o=some v)(h:v.isP=true)(hu:AVR g v u):AVR g' v u:=
 hu.ext (m:=0) ⟨hF,λn hn=>by omega,λn hn=>by omega,λn hn=>by omega,λn hn=>by omega⟩ (QAN h 0)
def ZH(P:Program)(mem:List (Nat×Ob))(nx:Nat)(r:Operand->Option AV)(o:Oper)(av:AV):Prop:=
 av.lt nx=true/\∀(κ:Ctx) (g:Gh) (a:Act) (w:World),Inv κ g mem w->(∀x∈o.op.operands.toList,∀v,r x=some v->AVR g v (a.eval x))->
  ∀(next:Act->World->Prop) (Q:Exit->Act->World->Prop),(∀g' v w',Ext nx g g'->Inv κ g' mem w'->AVR g' av v->next (a.put o.dst v) w')->o.wpIn (wd κ.rd) 0 P a w next Q
variable {o:Oper}
theorem QBx{ρ:Operand->Value}{x:Next}{r:Option Nat}(h:(execOp ρ o).run P w= .ok x w')(hx:∀d,x≠ .defer d):(o.semAt r ρ).run P w= .ok x w':=by
 by_cases hd:∃c,o.op= .defer c
 ·obtain ⟨c,hc⟩:=hd;exfalso;simp only[execOp,hc,zp]at h;cases hr:(resolve ρ c o.type).run P w with
  |ok d w1=>rw[hr]at h;simp only[zg,zq,ja]at h;exact hx d h.1.symm
  |halt p w1=>rw[hr]at h;simp at h
 ·rw [kh _ _ _ λc hc=>hd ⟨c,hc⟩];exact h
variable {next:Act->World->Prop}
variable {Q:Exit->Act->World->Prop}
theorem Qc{v:Value}{r:Option Nat}
  (h:(execOp a.eval o).run P w= .ok (.value v) w') (hn:next (a.put o.dst v) w'):o.wpIn (wd r) 0 P a w next Q:=by
 refine⟨λ_ _=>trivial,?_⟩;rw[QBx h (λd hd=>by cases hd)];exact hn
theorem Yx{r:Option Nat}
  (h:(execOp a.eval o).run P w= .ok .skip w') (hn:next (a.put o.dst undef) w'):o.wpIn (wd r) 0 P a w next Q:=by
 refine⟨λ_ _=>trivial,?_⟩;rw[QBx h (λd hd=>by cases hd)];exact hn
theorem QER{f:FuncId}{args:Array Value}{R:Ending->World->Prop}{r:Option Nat}(h:Calls P f args w R):CallsIn (wd r) n P f args w R:=by
 have:=callsIn_wide (n:=n).2 h;refine⟨trivial,λcs _=>?_⟩;obtain⟨e,w',fr,k1,k2,k3⟩:=this.2 cs (room_wide _);exact⟨e,w',fr,k1,k2,k3⟩
theorem YL{f:FuncId}{args:Array Value}{r:Option Nat}
  (h:(execOp a.eval o).run P w= .ok (.enter f args) w') (hn:Calls P f args w' λe w''=>∃v,e= .returned v/\next (a.put o.dst v) w''):o.wpIn (wd r) 0 P a w next Q:=by
 refine⟨λ_ _=>trivial,?_⟩;rw[QBx h (λd hd=>by cases hd)];refine⟨λhd=>by simp[wd]at hd,QER (hn.mono λe w'' ⟨v,he,hv⟩=>?_)⟩;subst he;exact hv
variable {mem:List (Nat×Ob)}
theorem ZH.of_run{r:Operand->Option AV}{av:AV}(hl:av.lt nx=true)
  (h:∀(κ:Ctx) (g:Gh) (a:Act) (w:World),Inv κ g mem w->(∀x∈o.op.operands.toList,∀v,r x=some v->AVR g v (a.eval x))->∃v,(execOp a.eval o).run P w= .ok (.value v) w/\AVR g av v):
  ZH P mem nx r o av:=
 ⟨hl,λκ g a w hi ho next Q hn=>let ⟨v,hr,hv⟩:=h κ g a w hi ho;Qc hr (hn g v w (.refl _ _) hi hv)⟩
structure Spl(b:Bool)(A B:Prop):Prop where
 t:b=true->A
 f:b=false->B
variable {A B p:Prop}
theorem Spl.tt(h:A):Spl true A B:=⟨λ_=>h,(λh=>by cases h)⟩
theorem Spl.ff(h:B):Spl false A B:=⟨(λh=>by cases h),λ_=>h⟩
def QN3(v:Option AV)(K:AV->Prop):Prop:=
 match v with
 |some v=>K v
 |none=>False
def ldD(ty:Ty)(cs:List D):AV:=bif ty.kd.agg then .dg ty.size (cs.take ty.size)else .d (cs.getD 0 (.bl false))
def allD:List AV->Option (List D)
 |[]=>some []
 | .d x::t=>match allD t with|some l=>some (x::l)|none=>none
 |_=>none
def QE1(k:Nat)(cs:List AV):AV:=
 match allD cs with
 |some l=> .dg k l
 |none=> .ag k cs
def ldA(ty:Ty)(off:Nat)(c:List AV):AV:=bif ty.kd.agg then QE1 ty.size ((c.drop off).take ty.size)else c.getD off .junk
structure Q0(e:Int)(K:Int->Prop):Prop where
 run:K e
structure AtA(a:AV)(K:AV->Prop):Prop where
 run:K a
structure AtD(a:List D)(K:List D->Prop):Prop where
 run:K a
structure XO(e:Nat)(K:Nat->Prop):Prop where
 run:K e
theorem AtA.bif{c:Bool}{a:AV}{K:AV->Prop}(h:bif c then AtA a K else K a):K a:=by
 cases c with
 |true=>exact h.run
 |false=>exact h
theorem AtD.bif{c:Bool}{a:List D}{K:List D->Prop}(h:bif c then AtD a K else K a):K a:=by
 cases c with
 |true=>exact h.run
 |false=>exact h
def QE2(op:BinOp)(k:IntKind)(a b:Int)(K:D->Prop):Prop:=
 match op with
 | .add=>Q0 (k.wrap (a+b)) λz=>K (.it k z)
 | .sub=>Q0 (k.wrap (a-b)) λz=>K (.it k z)
 | .mul=>Q0 (k.wrap (a*b)) λz=>K (.it k z)
 | .quo=>b≠0/\Q0 (k.wrap (a.tdiv b)) λz=>K (.it k z)
 | .rem=>b≠0/\Q0 (a.tmod b) λz=>K (.it k z)
 | .eql=>K (.bl (a==b))
 | .neq=>K (.bl (a !=b))
 | .lss=>K (.bl (a<b))
 | .leq=>K (.bl (a<=b))
 | .gtr=>K (.bl (a>b))
 | .geq=>K (.bl (a≥b))
 | .and=>Q0 (k.wrap (BitVec.ofInt k.bits a&&& BitVec.ofInt k.bits b).toNat) λz=>K (.it k z)
 | .or=>Q0 (k.wrap (BitVec.ofInt k.bits a|||BitVec.ofInt k.bits b).toNat) λz=>K (.it k z)
 | .xor=>Q0 (k.wrap (BitVec.ofInt k.bits a ^^^ BitVec.ofInt k.bits b).toNat) λz=>K (.it k z)
 | .andNot=>Q0 (k.wrap (BitVec.ofInt k.bits a&&& ~~~BitVec.ofInt k.bits b).toNat) λz=>K (.it k z)
 | .shl=>0<=b/\Q0 (k.wrap (a*2 ^ (min b.toNat k.bits))) λz=>K (.it k z)
 | .shr=>0<=b/\Q0 (a.fdiv (2 ^ (min b.toNat k.bits))) λz=>K (.it k z)
def QR7(op:BinOp)(a b:List UInt8)(K:D->Prop):Prop:=
 match op with
 | .add=>a.length+b.length<9223372036854775808/\K (.st (a++b))
 | .eql=>K (.bl (a==b))
 | .neq=>K (.bl !(a==b))
 | .lss=>K (.bl (Op.bytesLess a b))
 | .leq=>K (.bl (Op.bytesLess a b||a==b))
 | .gtr=>K (.bl !(Op.bytesLess a b||a==b))
 | .geq=>K (.bl !Op.bytesLess a b)
 |_=>False
def eqD:D->D->Bool
 | .bl a,.bl b=>a==b
 | .it _ a,.it _ b=>a==b
 | .st a,.st b=>a==b
 |_,_=>false
def Yg:List D->List D->Bool
 |a::x,b::y=>eqD a b&&Yg x y
 |_,_=>true
abbrev QD(l:List UInt8):List (List D):=l.map λb=>[D.it .u8 b.toNat]
def QR8(ti:Nat->Option Ty)(op:BinOp)(t:Nat)(x y:AV)(K:D->Prop):Prop:=
 match x,y with
 | .d (.it k a),.d (.it l b)=>match op with
  | .shl| .shr=>QE2 op k a b K
  |_=>bif decide (k=l)then QE2 op k a b K else False
 | .d (.st a),.d (.st b)=>QR7 op a b K
 | .d (.bl a),.d (.bl b)=>match op,ti t with
  | .eql,some ⟨.bool,_,_,_,_,_⟩=>K (.bl (a==b))
  | .neq,some ⟨.bool,_,_,_,_,_⟩=>K (.bl (!(a==b)))
  |_,_=>False
 | .dg _ cs,.dg _ ds=>match ti t with
  |some ty=>match ty.cmp with
   |some z=>bif ty.kd.agg&&(Q1 z cs&&Q1 z ds)then(match op with
    | .eql=>K (.bl (Yg cs ds))
    | .neq=>K (.bl (!(Yg cs ds)))
    |_=>False)else False
   |none=>False
  |none=>False
 |_,_=>False
def Z5:AV->Option (Nat×List (List D))
 | .d (.fs sz es)=>some (sz,es)
 | .ts sz es _=>some (sz,es)
 | .tg sz es=>some (sz,es)
 | .nl sz=>some (sz,[])
 |_=>none
def QJZ:AV->Option (Nat×List D)
 | .d x=>some (1,[x])
 | .dg k cs=>some (k,cs)
 | .ts sz es _=>some (1,[.fs sz es])
 | .tg sz es=>some (1,[.fs sz es])
 | .nl sz=>some (1,[.fs sz []])
 | .ag k cs=>match frzL cs with|some l=>some (k,l)|none=>none
 |_=>none
def XM:AV->Option (Nat×List AV)
 | .dg k cs=>some (k,cs.map .d)
 | .ag k cs=>some (k,cs)
 | .tup _| .junk=>none
 |v=>some (1,[v])
def QBL(r:Operand->Option AV):List (Nat×Operand)->Option (List (Nat×Nat×List AV))
 |[]=>some []
 |(i,x)::t=>match (match r x with|some v=>XM v|none=>none),QBL r t with
  |some (k,l),some rest=>some ((i,k,l)::rest)
  |_,_=>none
def D.isFs:D->Bool
 | .fs .. =>true
 |_=>false
def Yy(r:Operand->Option AV):List (Nat×Operand)->Option (List (Nat×Nat×List D))
 |[]=>some []
 |(i,x)::t=>match (match r x with|some v=>QJZ v|none=>none),Yy r t with
  |some (k,l),some rest=>some ((i,k,l)::rest)
  |_,_=>none
def YM{α:Type}(place:Nat->Option (Nat×Nat)):List α->List (Nat×Nat×List α)->Option (List α)
 |z,[]=>some z
 |z,(i,k,l)::t=>match place i with
  |some (off,size)=>bif Nat.beq k size then YM place (z.take off++l++z.drop (off+k)) t else none
  |none=>none
def Ju(ti:Nat->Option Ty)(fs:List (Nat×Nat))(i:Nat):Option (Nat×Nat):=
 match fs[i]? with
 |some (off,t)=>match ti t with|some ty=>some (off,ty.size)|none=>none
 |none=>none
def Zx:Nat->List D->List D
 |0,_=>[]
 |n+1,z=>z++Zx n z
def XP(sz:Nat):Nat->List D->List (List D)
 |0,_=>[]
 |n+1,l=>l.take sz::XP sz n (l.drop sz)
def QQD(P:Program)(f:Nat)(vs:Array Value)(w:World)(Q:Ending->World->Prop):Prop:=
 ((callFunc f vs).run P w= .ok (.enter f vs) w/\Calls P f vs w Q)\/∃v w',(callFunc f vs).run P w= .ok (.value v) w'/\Q (.returned v) w'
structure FnC(P:Program)(f:Nat)(args:List AV)(r:AV):Prop where
 isP:r.isP=true
 run:∀(g:Gh) (w:World) (vs:Array Value),(∀b o v,g.F b o=some v->w.cell? ⟨b,o,none⟩=some v)->GOK g.F->vs.size=args.length->
  (∀j (h:j<args.length),AVR g args[j] (vs.getD j undef))->
  QQD P f vs w λe w'=>∃v g',e= .returned v/\AVR g' r v/\(∀b o v,g.F b o=some v->g'.F b o=some v)/\
   (∀b o v,g'.F b o=some v->g.F b o=some v\/w.heap.size<=b)/\(∀b o v,g'.F b o=some v->w'.cell? ⟨b,o,none⟩=some v)/\
   w.heap.size<=w'.heap.size/\(∀b,b<w.heap.size->w'.heap[b]? =w.heap[b]?)/\w'.os=w.os/\w'.tape=w.tape/\w'.output=w.output
structure ZK(P:Program)(f:Nat)(args:List AV)(K:AV->Prop):Prop where
 run:∃r,FnC P f args r/\K r
def QC1(r:Operand->Option AV):List Operand->Option (List AV)
 |[]=>some []
 |x::t=>match (match r x with|some v=>v.pure1|none=>none),QC1 r t with
  |some v,some l=>some (v::l)
  |_,_=>none
def Xy(r:Operand->Option AV):List Operand->Option (List AV)
 |[]=>some []
 |x::t=>match r x,Xy r t with
  |some v,some l=>some (v::l)
  |_,_=>none
def AV.flat:AV->Bool
 | .fn .. | .ag .. | .tup .. =>false
 |_=>true
def QN4(P:Program)(ti:Nat->Option Ty)(mem:List (Nat×Ob))(r:Operand->Option AV)(o:Oper)(K:AV->Prop):Prop:=
 match o.op with
 | .move x| .assign x=>QN3 (r x) K
 | .pick c a b=>match r c with
  |some (.d (.bl t))=>Spl t (QN3 (r a) K) (QN3 (r b) K)
  |_=>False
 | .nilCheck x=>match r x with
  |some (.ptr n off)=>K (.ptr n off)
  |some (.d (.fp k cs))=>K (.d (.fp k cs))
  |_=>False
 | .load t x=>match ti t,r x with
  |some ty,some (.d (.fp k cs))=>bif Nat.ble ty.size k&&Nat.blt 0 k then(bif Nat.ble 17 k then AtA (ldD ty cs) K else K (ldD ty cs))else False
  |some ty,some (.ptr n off)=>match look n mem with
   |some (.cells size c)=>bif Nat.ble (off+ty.size) size&&Nat.blt off size then(bif Nat.ble 16 size then AtA (ldA ty off c) K else K (ldA ty off c))else False
   |_=>False
  |_,_=>False
 | .fieldAddr t x f=>match ti t,r x with
  |some ⟨.struct fs,_,_,_,_,_⟩,some p=>match Ju ti fs f with
   |some (fo,fsz)=>bif Nat.blt 0 fsz then(match p with
    | .ptr n off=>K (.ptr n (off+fo))
    | .d (.fp k cs)=>bif Nat.ble fo k then(bif Nat.ble 17 k then AtD (cs.drop fo) λl=>K (.d (.fp (k-fo) l))else K (.d (.fp (k-fo) (cs.drop fo))))else False
    |_=>False)else False
   |none=>False
  |_,_=>False
 | .field t x f=>match ti t,r x with
  |some ⟨.struct fs,_,_,_,_,_⟩,some v=>match fs[f]? with
   |some (fo,ft)=>match ti ft with
    |some fty=>match v with
     | .dg k cs=>bif Nat.ble (fo+fty.size) k&&Nat.blt fo k then(bif Nat.ble 17 k then AtA (ldD fty (cs.drop fo)) K else K (ldD fty (cs.drop fo)))else False
     | .ag k cs=>bif Nat.ble (fo+fty.size) k&&Nat.blt fo k then(bif Nat.ble 17 k then AtA (ldA fty fo cs) K else K (ldA fty fo cs))else False
     |_=>False
    |none=>False
   |none=>False
  |_,_=>False
 | .indexAddr t x i=>match ti t,r x,r i with
  |some ⟨.slice e,_,_,_,_,_⟩,some v,some (.d (.it _ n))=>match Z5 v,ti e with
   |some (sz,es),some ety=>bif Nat.beq sz ety.size then(0<=n/\n<es.length)/\∀c,es[n.toNat]? =some c->K (.d (.fp sz c))else False
   |_,_=>False
  |some ⟨.arr len e,_,_,_,_,_⟩,some (.d (.fp k cs)),some (.d (.it _ n))=>match ti e with
   |some ety=>bif Nat.ble (len*ety.size) k&&Nat.blt 1 len then(0<=n/\n<len)/\(bif Nat.ble 5 (len*ety.size)then AtD ((cs.drop (n.toNat*ety.size)).take ety.size) λl=>K (.d (.fp ety.size l))else K (.d (.fp ety.size ((cs.drop (n.toNat*ety.size)).take ety.size))))else False
   |none=>False
  |_,_,_=>False
 | .index t x i=>match ti t,r x,r i with
  |some ⟨.string,_,_,_,_,_⟩,some (.d (.st l)),some (.d (.it _ n))=>(0<=n/\n<l.length)/\∀c,l[n.toNat]? =some c->K (.d (.it .u8 c.toNat))
  |some ⟨.arr len e,_,_,_,_,_⟩,some (.dg k cs),some (.d (.it _ n))=>match ti e with
   |some ety=>bif Nat.ble (len*ety.size) k&&Nat.blt 0 ety.size then(0<=n/\n<len)/\(bif Nat.ble 5 k then AtA (ldD ety (cs.drop (n.toNat*ety.size))) K else K (ldD ety (cs.drop (n.toNat*ety.size))))else False
   |none=>False
  |_,_,_=>False
 | .slice t x lo hi mx=>match ti t,r x with
  |some ⟨.string,_,_,_,_,_⟩,some (.d (.st l))=>match lo,hi,mx with
   |some lo,some hi,none=>match r lo,r hi with
    |some (.d (.it .i64 i)),some (.d (.it .i64 j))=>(0<=i/\i<=j/\j<=l.length)/\K (.d (.st ((l.take j.toNat).drop i.toNat)))
    |_,_=>False
   |some lo,none,none=>match r lo with
    |some (.d (.it .i64 i))=>(0<=i/\i<=l.length)/\K (.d (.st (l.drop i.toNat)))
    |_=>False
   |none,some hi,none=>match r hi with
    |some (.d (.it .i64 j))=>(0<=j/\j<=l.length)/\K (.d (.st (l.take j.toNat)))
    |_=>False
   |_,_,_=>False
  |some ⟨.slice e,_,_,_,_,_⟩,some v=>match Z5 v,ti e with
   |some (sz,es),some ety=>bif Nat.beq sz ety.size then(match lo,hi,mx with
    |some lo,some hi,none=>match r lo,r hi with
     |some (.d (.it .i64 i)),some (.d (.it .i64 j))=>(0<=i/\i<=j/\j<=es.length)/\K (.d (.fs sz ((es.take j.toNat).drop i.toNat)))
     |_,_=>False
    |some lo,none,none=>match r lo with
     |some (.d (.it .i64 i))=>(0<=i/\i<=es.length)/\K (.d (.fs sz (es.drop i.toNat)))
     |_=>False
    |none,some hi,none=>match r hi with
     |some (.d (.it .i64 j))=>(0<=j/\j<=es.length)/\K (.d (.fs sz (es.take j.toNat)))
     |_=>False
    |none,some hi,some mx=>match r hi,r mx with
     |some (.d (.it .i64 j)),some (.d (.it .i64 m))=>(0<=j/\j<=es.length/\m=j)/\K (.tg sz (es.take j.toNat))
     |_,_=>False
    |_,_,_=>False)else False
   |_,_=>False
  |_,_=>False
 | .binOp op t x y _=>match r x,r y with
  |some u,some v=>QR8 ti op t u v λz=>K (.d z)
  |_,_=>False
 | .unOp .not _ x=>match r x with
  |some (.d (.bl b))=>K (.d (.bl !b))
  |_=>False
 | .unOp .neg _ x=>match r x with
  |some (.d (.it k n))=>Q0 (k.wrap (0-n)) λz=>K (.d (.it k z))
  |_=>False
 | .convert s t x=>match ti s,ti t,r x with
  |some ⟨.int _,_,_,_,_,_⟩,some ⟨.int k,_,_,_,_,_⟩,some (.d (.it _ n))=>Q0 (k.wrap n) λz=>K (.d (.it k z))
  |some ⟨.string,_,_,_,_,_⟩,some ⟨.string,_,_,_,_,_⟩,some (.d (.st l))=>K (.d (.st l))
  |some ⟨.slice e,_,_,_,_,_⟩,some ⟨.string,_,_,_,_,_⟩,some v=>match Z5 v,ti e with
   |some (sz,es),some ⟨.int .u8,1,_,_,_,_⟩=>bif Nat.beq sz 1 then∃l,es=QD l/\K (.d (.st l))else False
   |_,_=>False
  |some ⟨.string,_,_,_,_,_⟩,some ⟨.slice e,_,_,_,_,_⟩,some (.d (.st l))=>match ti e with
   |some ⟨.int .u8,1,_,_,_,_⟩=>K (.d (.fs 1 (QD l)))
   |_=>False
  |_,_,_=>False
 | .extract x i=>match r x with
  |some (.tup vs)=>QN3 vs[i]? K
  |_=>False
 | .build t parts=>match ti t,Yy r parts.toList,QBL r parts.toList with
  |some ty,some ps,some pa=>bif Nat.beq ty.zero.length ty.size&&Nat.blt 0 ty.size then(match ty.kd with
   | .struct _=>bif ty.pl.all (λp=>Nat.ble (p.1+p.2) ty.size)then(bif ty.zero.any D.isFs then(match YM (λi=>ty.pl[i]?) (ty.zero.map toA) pa with
     |some l=>K (.ag ty.size l)
     |none=>False)else(match YM (λi=>ty.pl[i]?) ty.zero ps with
     |some l=>K (.dg ty.size l)
     |none=>False))else False
   | .arr _ e=>match ti e with
    |some ety=>match YM (λi=>bif Nat.ble (i*ety.size+ety.size) ty.size then some (i*ety.size,ety.size)else none) ty.zero ps with
     |some l=>bif ps.all (λp=>Nat.ble (p.1*ety.size+ety.size) ty.size)then K (.dg ty.size l)else False
     |none=>False
    |none=>False
   |_=>False)else False
  |some ty,none,some pa=>bif Nat.beq ty.zero.length ty.size&&Nat.blt 0 ty.size then(match ty.kd with
   | .struct _=>bif ty.pl.all (λp=>Nat.ble (p.1+p.2) ty.size)then(match YM (λi=>ty.pl[i]?) (ty.zero.map toA) pa with
     |some l=>K (.ag ty.size l)
     |none=>False)else False
   |_=>False)else False
  |_,_,_=>False
 | .buildSlice t n parts=>match ti t,Yy r parts.toList with
  |some ⟨.slice e,_,_,_,_,_⟩,some ps=>match ti e with
   |some ety=>bif Nat.beq ety.zero.length ety.size&&Nat.blt 0 ety.size&&(Nat.ble (n*ety.size) 16777216&&ps.all (λp=>Nat.blt p.1 n))then(match YM (λi=>bif Nat.blt i n then some (i*ety.size,ety.size)else none) (Zx n ety.zero) ps with
    |some l=>K (.tg ety.size (XP ety.size n l))
    |none=>False)else False
   |none=>False
  |_,_=>False
 | .call c=>match c.callee,c.args.toList with
  | .builtin .len,[x]=>match r x,c.argTypes[0]?.bind ti with
   |some (.d (.st l)),some ⟨.string,_,_,_,_,_⟩=>K (.d (.it .i64 l.length))
   |some v,some ⟨.slice _,_,_,_,_,_⟩=>match Z5 v with
    |some (_,es)=>K (.d (.it .i64 es.length))
    |none=>False
   |_,some ⟨.arr n _,_,_,_,_,_⟩=>K (.d (.it .i64 n))
   |_,_=>False
  | .builtin .min,[x,y]=>match r x,r y with
   |some (.d (.it k a)),some (.d (.it _ b))=>Q0 (if b<a then b else a) λz=>K (.d (.it k z))
   |_,_=>False
  | .builtin .max,[x,y]=>match r x,r y with
   |some (.d (.it k a)),some (.d (.it _ b))=>Q0 (if b>a then b else a) λz=>K (.d (.it k z))
   |_,_=>False
  | .value (.func f),l=>match QC1 r l with
   |some args=>ZK P f args K
   |none=>False
  |_,_=>False
 |_=>False
theorem X0(f:Nat->Value)(n j:Nat)(h:j<n):(((List.range n).map f).toArray).getD j undef=f j:=by
 simp[Array.getD,h]
theorem JQ{u:TypeDesc}{i:TypeInfo}(h:QCY P t ty u i){b:Nat}{f:Nat->Value}
  (hc:∀j,j<ty.size->w.cell? ⟨b,off+j,none⟩=some (f j)) (h0:w.cell? ⟨b,off,none⟩=some (f 0)):
  (loadVar t ⟨b,off,none⟩).run P w= .ok (if ty.kd.agg then .agg ((List.range ty.size).map f).toArray else f 0) w:=by
 simp only[loadVar,zp,Jt h.und,zg,h.kd];cases ha:ty.kd.agg with
 |true=>
  simp only[if_true,zp,QV h.info,zg,h.size];rw[run_loadCells _ _ _ f (λj hj=>by rw[ZB];exact hc j hj)];rfl
 |false=>
  simp only[yw,if_false,run_load,h0]
theorem QQE{j:Nat}(h:j<cs.length)(x:D):cs.getD j x=cs[j]:=by
 simp[List.getD,h]
theorem QGe{f:Nat->Value}(hr:∀j (h:j<cs.length),DR g.F cs[j] (f j))(hs:ty.size<=cs.length)(h0:0<cs.length):
  AVR g (ldD ty cs) (if ty.kd.agg then .agg ((List.range ty.size).map f).toArray else f 0):=by
 unfold ldD;cases ty.kd.agg with
 |true=>
  simp only[cond_true,if_true];refine .dg _ _ _ (by simp) (by simp[hs]) λj hj=>?_;simp only[zy]at hj;rw[X0 f _ _ (by omega)];simpa using hr j (by omega)
 |false=>
  simp only[cond_false,yw,if_false];rw[QQE h0];exact .d _ _ (hr 0 h0)
theorem QAj:∀ {l:List AV} {ds:List D},allD l=some ds->l=ds.map AV.d
 |[],ds,h=>by obtain rfl:=za h;rfl
 |v::t,ds,h=>by
  cases v<;>simp only[allD]at h<;>try cases h
  split at h
  ·rename_i l hl;obtain rfl:=za h;rw[QAj hl];rfl
  ·cases h
variable {vs arr:Array Value}
theorem QQF{cs:List AV}(h1:vs.size=k)(h2:cs.length=k)(h3:∀j (h:j<cs.length),cs[j].sc=true)
  (h:∀j (h:j<cs.length),AVR g cs[j] (vs.getD j undef)):AVR g (QE1 k cs) (.agg vs):=by
 unfold QE1;split
 ·rename_i l hl;obtain rfl:=QAj hl;refine .dg _ _ _ h1 (by simpa using h2) λj hj=>?_;have:=h j (by simpa using hj);simp only[z1]at this;cases this;assumption
 ·exact .ag _ _ _ h1 h2 h3 h
variable {c l l':List AV}
theorem QJa{f:Nat->Value}(h3:∀j (h:j<c.length),c[j].sc=true)(hr:∀j (h:j<c.length),AVR g c[j] (f j))(hs:off+ty.size<=c.length)(h0:off<c.length):
  AVR g (ldA ty off c) (if ty.kd.agg then .agg ((List.range ty.size).map λj=>f (off+j)).toArray else f (off+0)):=by
 unfold ldA;cases ty.kd.agg with
 |true=>
  simp only[cond_true,if_true];refine QQF (by simp) (by simp;omega) (λj hj=>?_) λj hj=>?_
  ·simp only[zy,ym]at hj;simpa using h3 (off+j) (by omega)
  ·simp only[zy,ym]at hj;rw[X0 (λj=>f (off+j)) _ _ (by omega)];simpa using hr (off+j) (by omega)
 |false=>
  simp only[cond_false,yw,if_false];have:c.getD off .junk=c[off]:=by simp[List.getD,h0]
  rw[this];exact hr off h0
theorem QC2{α:Type}{l:List α}{p:α->Bool}(h:l.all p=true)(j:Nat)(hj:j<l.length):p l[j]=true:=
 ze.1 h _ (zm hj)
theorem QQG{cs:List AV}(h:∀x∈cs,x.lt1 m=true):(QE1 k cs).lt m=true:=by
 unfold QE1;split
 ·rfl
 ·simp only[AV.lt,AV.lt2,ze];exact h
theorem QJb(h:∀x∈c,x.lt1 m=true):(ldA ty off c).lt m=true:=by
 unfold ldA;cases ty.kd.agg with
 |true=>exact QQG λx hx=>h x (xx (xg hx))
 |false=>
  simp only[cond_false];by_cases h0:off<c.length
  ·have:c.getD off .junk=c[off]:=by simp[List.getD,h0]
   rw[this];exact AV.lt_of_lt1 (h _ (zm _))
  ·have:c.getD off .junk= .junk:=by simp[List.getD,Nat.le_of_not_lt h0]
   rw[this];rfl
theorem QJc:(ldD ty cs).lt m=true:=by unfold ldD;cases ty.kd.agg<;>rfl
variable {fs:List (Nat×Nat)}
section
variable {P:Program} {ti:Nat->Option Ty} {mem:List (Nat×Ob)} {nx:Nat} {r:Operand->Option AV} {o:Oper} {K:AV->Prop}
theorem QFe(hop:o.op= .move x\/o.op= .assign x)(hr:r x=some v)(hl:v.lt nx=true):ZH P mem nx r o v:=by
 refine .of_run hl λκ g a w hi ho=>⟨a.eval x,?_,ho x ?_ v hr⟩
 ·rcases hop with h|h<;>simp[execOp,h]
 ·rcases hop with h|h<;>simp[h,Op.operands]
theorem QFf{c:Operand}{t:Bool}(hop:o.op= .pick c x y)(hc:r c=some (.d (.bl t)))(hr:r (if t then x else y)=some v)(hl:v.lt nx=true):ZH P mem nx r o v:=by
 refine .of_run hl λκ g a w hi ho=>⟨a.eval (if t then x else y),?_,?_⟩
 ·have h1:=ho c (by simp[hop,Op.operands]) _ hc;have h2:a.eval c= .bool t:=by generalize a.eval c=q at h1;cases h1 with|d _ _ h=>cases h;rfl
  cases t<;>simp[execOp,hop,h2,asBool]
 ·refine ho _ ?_ _ hr;cases t<;>simp[hop,Op.operands]
theorem QA7(hop:o.op= .nilCheck x)(hr:r x=some v)(hl:v.lt nx=true)(hv:(∃n off,v= .ptr n off)\/∃k cs,v= .d (.fp k cs)):ZH P mem nx r o v:=by
 refine .of_run hl λκ g a w hi ho=>⟨a.eval x,?_,ho x (by simp[hop,Op.operands]) v hr⟩;have h1:=ho x (by simp[hop,Op.operands]) _ hr;have h2:∃ad,a.eval x= .pointer (some ad):=by
  rcases hv with⟨n,off,rfl⟩|⟨k,cs,rfl⟩
  ·generalize a.eval x=q at h1;cases h1;exact⟨_,rfl⟩
  ·generalize a.eval x=q at h1;cases h1 with|d _ _ h=>cases h;exact⟨_,rfl⟩
 obtain⟨ad,h2⟩:=h2;simp[execOp,hop,h2]
theorem QGf(hop:o.op= .load t x)(ht:YZ P t=some ty)(hr:r x=some (.d (.fp k cs)))(hs:ty.size<=k)(h0:0<k):ZH P mem nx r o (ldD ty cs):=by
 obtain⟨u,i,ht⟩:=QE ht;refine .of_run (by unfold ldD;cases ty.kd.agg<;>rfl) λκ g a w hi ho=>?_;have h1:=ho x (by simp[hop,Op.operands]) _ hr;cases h1 with|d _ _ h=>?_
 generalize ha:a.eval x=q at h;cases h with|fp _ _ b off f hl hF hd=>?_
 refine⟨_,?_,QGe (f:=f) hd (by omega) (by omega)⟩;simp only[execOp,hop,ha,Instr.loadAt,Instr.sureAddr,zp,zq,zg];rw[JQ ht (f:=f) (λj hj=>hi.frz _ _ _ (hF j (by omega))) (hi.frz _ _ _ (hF 0 h0))];rfl
theorem QE3(hop:o.op= .load t x)(ht:YZ P t=some ty)(hr:r x=some (.ptr n off))(hm:look n mem=some (.cells size c))(hs:off+ty.size<=size)(h0:off<size)(hc:∀x∈c,x.lt1 nx=true):ZH P mem nx r o (ldA ty off c):=by
 obtain⟨u,i,ht⟩:=QE ht;refine .of_run (QJb hc) λκ g a w hi ho=>?_;have h1:=ho x (by simp[hop,Op.operands]) _ hr;generalize ha:a.eval x=q at h1;cases h1 with|ptr=>?_
 obtain⟨arr,T,e1,e2,e3,e4,e5,e6⟩:=hi.obs n _ hm;have hcell:∀j,j<size->w.cell? ⟨g.blk n,j,none⟩=some (arr.getD j undef):=λj hj=>by
  simp[World.cell?,e1,Array.getD,show j<arr.size by omega]
 refine⟨_,?_,QJa (f:=λj=>arr.getD j undef) e4 e5 (by omega) (by omega)⟩;simp only[execOp,hop,ha,Instr.loadAt,Instr.sureAddr,zp,zq,zg];rw[JQ ht (f:=λj=>arr.getD (off+j) undef) (λj hj=>hcell _ (by omega)) (hcell _ h0)];rfl
theorem Yz{fsz:Nat}{p:AV}(hti:QU P ti)(hop:o.op= .fieldAddr t x f)(ht:YZ P t=some ty)(hk:ty.kd= .struct fs)(hf:Ju ti fs f=some (fo,fsz))(h0:0<fsz)
  (hr:r x=some p) (hv:(∃n off,p= .ptr n off/\v= .ptr n (off+fo)/\n<nx)\/(∃k cs,p= .d (.fp k cs)/\v= .d (.fp (k-fo) (cs.drop fo))/\fo<=k)\/∃sz n k off,p= .vq sz n k off/\v= .vq sz n k (off+fo)/\n<nx):ZH P mem nx r o v:=by
 obtain⟨u,i,ht⟩:=QE ht;unfold Ju at hf;split at hf
 case h_2=>cases hf
 rename_i q off' ft hfs;split at hf
 case h_2=>cases hf
 rename_i fty hfty;simp only[yo,xo]at hf;obtain⟨rfl,rfl⟩:=hf;obtain⟨uf,fi,hft⟩:=QE (hti _ _ hfty);have hkd:=ht.kd;rw[hk]at hkd;have hu:∃fields:Array Field,u= .struct fields/\fields.toList.map (λf=>(f.offset,f.type))=fs:=by
  cases u<;>simp only[XU]at hkd<;>first|(cases hkd;done)|skip
  rename_i fields;exact⟨fields,rfl,by injection hkd⟩
 obtain⟨fields,rfl,hfl⟩:=hu;have hfield:∃fd:Field,fields[f]? =some fd/\fd.offset=off'/\fd.type=ft:=by
  rw[<-hfl,yv]at hfs;cases hq:fields.toList[f]? with
  |none=>rw[hq]at hfs;cases hfs
  |some fd=>
   rw[hq]at hfs;simp only[ug,yo,xo]at hfs;exact⟨fd,by simpa using hq,hfs.1,hfs.2⟩
 obtain⟨fd,hfd,rfl,rfl⟩:=hfield;have hlt:v.lt nx=true:=by
  rcases hv with⟨n,off,_,rfl,hn⟩|⟨k,cs,_,rfl,_⟩|⟨sz,n,k,off,_,rfl,hn⟩
  ·simp [AV.lt,AV.lt2,AV.lt1,AV.lt0,hn]
  ·rfl
  ·simp [AV.lt,AV.lt2,AV.lt1,AV.lt0,hn]
 refine .of_run hlt λκ g a w hi ho=>?_;have h1:=ho x (by simp[hop,Op.operands]) _ hr;generalize ha:a.eval x=q at h1;have main:∀b off,q= .pointer (some ⟨b,off,none⟩)->(execOp a.eval o).run P w= .ok (.value (.pointer (some ⟨b,off+fd.offset,none⟩))) w:=by
  rintro b off rfl;simp only[execOp,hop,ha,Instr.fieldAt,Instr.sureAddr,zp,zq,zg,run_underlying ht.und,hfd,fieldPlace,QV hft.info,ww,hft.size,ZB];rw[if_neg (by omega)];rfl
 rcases hv with⟨n,off,rfl,rfl,hn⟩|⟨k,cs,rfl,rfl,hle⟩|⟨sz,n,k,off,rfl,rfl,hn⟩
 ·cases h1 with|ptr=>?_
  exact⟨_,main _ _ rfl,.ptr _ _⟩
 ·cases h1 with|d _ _ h=>?_
  cases h with|fp _ _ b off f hl hF hd=>?_
  refine⟨_,main _ _ rfl,.d _ _ (.fp _ _ _ _ (λj=>f (fd.offset+j)) (by simp[hl]) (λj hj=>?_) λj hj=>?_)⟩
  ·rw [wl];exact hF _ (by omega)
  ·simp only[ym]at hj;simpa using hd (fd.offset+j) (by omega)
 ·cases h1 with|vq _ _ _ _ hh=>?_
  exact⟨_,main _ _ rfl,by rw[wl];exact .vq _ _ _ _ hh⟩
end
variable {κ:Ctx}
theorem Inv.grow(hi:Inv κ g mem w)(hmem:∀n ob,look n mem=some ob->n<nx/\ob.lt nx=true)(he:Ext nx g g')
  (hsz:w.heap.size<=w'.heap.size) (hb:∀b,b<w.heap.size->w'.heap[b]? =w.heap[b]?) (hnew:∀b o v,g'.F b o=some v->g.F b o=some v\/w.heap.size<=b)
  (hfrz:∀b o v,g'.F b o=some v->w'.cell? ⟨b,o,none⟩=some v) (h1:w'.os=w.os) (h2:w'.tape=w.tape) (h3:w'.output=w.output):Inv κ g' mem w':=by
 have lt_of:∀ {b:Nat} {x:Obj},w.heap[b]? =some x->b<w.heap.size:=λh=>by
  rcases yj _ w.heap.size with h'|h'
  ·exact h'
  ·rw [xh h']at h;cases h
 have XC:∀b o,b<w.heap.size->g.F b o=none->g'.F b o=none:=λb o hb hn=>by
  cases hq:g'.F b o with
  |none=>rfl
  |some v=>
   rcases hnew _ _ _ hq with h|h
   ·rw [hn]at h;cases h
   ·omega
 have on:∀n,On g' mem n->On g mem n:=λn h=>by
  unfold On at*
  cases hl:look n mem with
  |none=>rw[hl]at h;exact h
  |some ob=>
   rw[hl]at h;cases ob with
   |cells=>trivial
   |tail=>exact(he.has n (hmem n _ hl).1)▸h
   |vec=>exact(he.has n (hmem n _ hl).1)▸h
   |tag=>exact h
   |frame=>exact h
   |loop=>trivial
   |mp=>exact(he.has n (hmem n _ hl).1)▸h
 have bl:∀n,On g mem n->g'.blk n=g.blk n:=λn h=>by
  unfold On at h;cases hl:look n mem with
  |none=>rw[hl]at h;exact h.elim
  |some ob=>exact he.blk n (hmem n _ hl).1
 refine⟨hfrz,λn ob hn=>?_,λn m hnm h h'=>?_,xy hi.size hsz,λb hb' hm=>?_,λn h=>?_,λb o v h=>he.F _ _ _ (hi.f0 _ _ _ h),λb o v h=>?_,h1.trans hi.os,h2.trans hi.tape,h3.trans hi.output,λD hD=>by rw[hb D (lt_of (hi.dfr D hD))];exact hi.dfr D hD⟩
 ·obtain ⟨hn',hl⟩:=hmem n ob hn;have:=hi.obs n ob hn;cases ob with
  |cells size c=>
   obtain⟨arr,T,e1,e2,e3,e4,e5,e6⟩:=this;have hlt:=lt_of e1;refine⟨arr,T,?_,e2,e3,e4,λj hj=>(e5 j hj).ext1 he ?_,λo=>?_⟩
   ·rw [he.blk n hn',hb _ hlt];exact e1
   ·simp only[Ob.lt,ze]at hl;exact hl _ (zm hj)
   ·rw [he.blk n hn'];exact XC _ _ hlt (e6 o)
  |tag m t=>
   obtain⟨arr,fz,e⟩:=this;simp only[Ob.lt,yc]at hl;exact⟨arr,fz,by rw[he.blk m hl,hb _ (lt_of e)];exact e⟩
  |vec t sz es f'=>exact ZM.mono this he.F (he.blk n hn') (he.hi n hn') (he.cp n hn') (he.has n hn') (λhh=>by obtain⟨arr,e1,_⟩:=this.2.2 hh;exact hb _ (lt_of e1)) (λhh o ho=>by obtain⟨arr,e1,_⟩:=this.2.2 hh;exact XC _ _ (lt_of e1) ho)
  |tail=>
   refine⟨λhh=>?_,λhb hh=>by rw[he.hi n hn'];exact this.2 hb ((he.has n hn').symm.trans hh)⟩;obtain⟨arr,T,e1,e2,e3,e4⟩:=this.1 ((he.has n hn').symm.trans hh);have hlt:=lt_of e1;refine⟨arr,T,?_,?_,?_,λo ho=>?_⟩
   ·rw [he.blk n hn',hb _ hlt];exact e1
   ·rw [he.cp n hn'];exact e2
   ·rw [he.cp n hn',he.hi n hn'];exact e3
   ·rw [he.hi n hn']at ho;rw[he.blk n hn'];exact XC _ _ hlt (e4 o ho)
  |frame sz l=>
   simp only[Ob.lt,ze]at hl;exact⟨this.1,λs v hs=>(this.2 s v hs).ext he (hl _ (Qb hs))⟩
  |loop k ps asg body st pd=>
   obtain⟨eb,fn,D,e⟩:=this;exact⟨(he.blk n hn').trans eb,fn,D,by rw[he.blk n hn',hb _ (lt_of e)];exact e⟩
  |mp b ag tp l=>exact ZQ.mono this he.F (he.blk n hn') (he.hi n hn') (he.cp n hn') (he.has n hn') (λhh=>by obtain⟨arr,e1,_⟩:=this.2.2 hh;exact hb _ (lt_of e1)) (λhh o ho=>by obtain⟨arr,e1,_⟩:=this.2.2 hh;exact XC _ _ (lt_of e1) ho)
 ·rw [bl n (on n h),bl m (on m h')];exact hi.inj n m hnm (on n h) (on m h')
 ·rw [hb b (by have:=hi.size;omega)];exact hi.pres b hb' hm
 ·rw [bl n (on n h)];exact hi.own n (on n h)
 ·rcases hnew _ _ _ h with h|h
  ·exact hi.fnew _ _ _ h
  ·exact .inr (.inl (xy hi.size h))
theorem Inv.newFrozen{T:TypeId}{fz:Nat×Nat}(hi:Inv κ g mem w)(hmem:∀n ob,look n mem=some ob->n<nx/\ob.lt nx=true)
  (hw:w'.heap=w.heap.push (.cells arr T fz)) (h1:w'.os=w.os) (h2:w'.tape=w.tape) (h3:w'.output=w.output) (n:Nat) (hn:n<=arr.size):
  ∃g',Ext nx g g'/\Inv κ g' mem w'/\∀o,o<n->g'.F w.heap.size o=some (arr.getD o undef):=by
 have hold:∀b o v,g.F b o=some v->b<w.heap.size:=λb o v h=>u0 w ⟨b,o,none⟩ (hi.frz b o v h);refine⟨{g with F:=λb o=>if b=w.heap.size then(if o<n then some (arr.getD o undef)else none)else g.F b o},⟨λb o v h=>?_,λ_ _=>rfl,λ_ _=>rfl,λ_ _=>rfl,λ_ _=>rfl⟩,?_,λo ho=>?_⟩
 ·show (if b=w.heap.size then _ else _)=_;rw[if_neg (by have:=hold _ _ _ h;omega)];exact h
 ·refine hi.grow hmem ⟨λb o v h=>?_,λ_ _=>rfl,λ_ _=>rfl,λ_ _=>rfl,λ_ _=>rfl⟩ (by rw[hw];simp) (λb hb=>?_) (λb o v h=>?_) (λb o v h=>?_) h1 h2 h3
  ·show (if b=w.heap.size then _ else _)=_;rw[if_neg (by have:=hold _ _ _ h;omega)];exact h
  ·rw [hw,xw,if_neg (by omega)]
  ·have h':(if b=w.heap.size then(if o<n then some (arr.getD o undef)else none)else g.F b o)=some v:=h;by_cases hb:b=w.heap.size
   ·exact .inr (by omega)
   ·rw [if_neg hb]at h';exact .inl h'
  ·have h':(if b=w.heap.size then(if o<n then some (arr.getD o undef)else none)else g.F b o)=some v:=h;by_cases hb:b=w.heap.size
   ·rw [if_pos hb]at h';by_cases ho:o<n
    ·rw [if_pos ho]at h';obtain rfl:=za h';subst hb;simp[World.cell?,hw,Array.getD,show o<arr.size by omega]
    ·rw [if_neg ho]at h';cases h'
   ·rw [if_neg hb]at h';have hc:=hi.frz _ _ _ h';have hlt:=hold _ _ _ h';simp only[World.cell?]at hc⊢;rw[hw,xw,if_neg (by omega)];exact hc
 ·show (if w.heap.size=w.heap.size then _ else _)=_;rw[if_pos rfl,if_pos ho]
variable {kk:IntKind}
variable {lo hi:Option Operand}
variable {j:Option Int}
variable {op:BinOp}
section
variable {P:Program} {ti:Nat->Option Ty} {mem:List (Nat×Ob)} {nx:Nat} {r:Operand->Option AV} {o:Oper} {K:AV->Prop}
theorem Jg{u:TypeDesc}{i:TypeInfo}(ht:QCY P t ty u i)(hk:ty.kd= .struct fs):∃fields:Array Field,u= .struct fields/\fields.toList.map (λf=>(f.offset,f.type))=fs:=by
 have hkd:=ht.kd;rw[hk]at hkd;cases u<;>simp only[XU]at hkd<;>first|(cases hkd;done)|skip
 rename_i fields;exact⟨fields,rfl,by injection hkd⟩
theorem QES{fields:Array Field}(hfl:fields.toList.map (λf=>(f.offset,f.type))=fs)(hfs:fs[f]? =some (fo,ft)):∃fd:Field,fields[f]? =some fd/\fd.offset=fo/\fd.type=ft:=by
 rw[<-hfl,yv]at hfs;cases hq:fields.toList[f]? with
 |none=>rw[hq]at hfs;cases hfs
 |some fd=>
  rw[hq]at hfs;simp only[ug,yo,xo]at hfs;exact⟨fd,by simpa using hq,hfs.1,hfs.2⟩
theorem Q3{u:TypeDesc}{i:TypeInfo}{e:Nat}(ht:QCY P t ty u i)(hk:ty.kd= .slice e):u= .slice e:=by
 have hkd:=ht.kd;rw[hk]at hkd;cases u<;>simp only[XU]at hkd<;>first|(cases hkd;done)|skip
 cases hkd;rfl
theorem QAO{u:TypeDesc}{i:TypeInfo}{e:Nat}(ht:QCY P t ty u i)(hk:ty.kd= .arr n e):u= .array n e:=by
 have hkd:=ht.kd;rw[hk]at hkd;cases u<;>simp only[XU]at hkd<;>first|(cases hkd;done)|skip
 cases hkd;rfl
theorem Z3{u:TypeDesc}{i:TypeInfo}(ht:QCY P t ty u i)(hk:ty.kd= .string):u= .string:=by
 have hkd:=ht.kd;rw[hk]at hkd;cases u<;>simp only[XU]at hkd<;>first|(cases hkd;done)|rfl
theorem QAP{u:TypeDesc}{i:TypeInfo}{k:IntKind}(ht:QCY P t ty u i)(hk:ty.kd= .int k):u= .int k:=by
 have hkd:=ht.kd;rw[hk]at hkd;cases u<;>simp only[XU]at hkd<;>first|(cases hkd;done)|skip
 cases hkd;rfl
theorem QGg{u:TypeDesc}{i:TypeInfo}(ht:QCY P t ty u i)(hk:ty.kd= .bool):u= .bool:=by
 have hkd:=ht.kd;rw[hk]at hkd;cases u<;>simp only[XU]at hkd<;>first|(cases hkd;done)|rfl
theorem QET{u:TypeDesc}{i:TypeInfo}(ht:QCY P t ty u i)(vs:Array Value)(off:Nat)(h:off+ty.size<=vs.size)(h0:off<vs.size)(w:World):
  (part t vs off).run P w= .ok (if ty.kd.agg then .agg ((List.range ty.size).map λj=>vs.getD (off+j) undef).toArray else vs.getD (off+0) undef) w:=by
 simp only[part,zp,Jt ht.und,zg,ht.kd];cases ty.kd.agg with
 |true=>
  simp only[if_true,zp,QV ht.info,zg,ht.size,zq];congr 2;apply Array.ext
  ·simp;omega
  ·intro j h1 h2;simp only[Array.size_extract]at h1;simp[Array.getD,show off+j<vs.size by omega]
 |false=>
  simp only[yw,if_false,x6];simp[h0,Array.getD]
theorem QGh(hti:QU P ti)(hop:o.op= .field t x f)(ht:YZ P t=some ty)(hk:ty.kd= .struct fs)(hf:fs[f]? =some (fo,ft))(hft:ti ft=some fty)
  (hr:r x=some (.dg k cs)) (hs:fo+fty.size<=k) (h0:fo<k):ZH P mem nx r o (ldD fty (cs.drop fo)):=by
 obtain⟨u,i,ht⟩:=QE ht;obtain⟨uf,fi,hft⟩:=QE (hti _ _ hft);obtain⟨fields,rfl,hfl⟩:=Jg ht hk;obtain⟨fd,hfd,rfl,rfl⟩:=QES hfl hf;refine .of_run QJc λκ g a w hi ho=>?_;have h1:=ho x (by simp[hop,Op.operands]) _ hr;generalize ha:a.eval x=q at h1;cases h1 with|dg _ _ vs e1 e2 e3=>?_
 have hrel:∀j (h:j<(cs.drop fd.offset).length),DR g.F (cs.drop fd.offset)[j] (vs.getD (fd.offset+j) undef):=λj hj=>by
  simp only[ym]at hj;simpa using e3 (fd.offset+j) (by omega)
 refine⟨_,?_,QGe (f:=λj=>vs.getD (fd.offset+j) undef) hrel (by simp;omega) (by simp;omega)⟩;simp only[execOp,hop,ha,Instr.field,asAgg,zp,zq,zg,run_underlying ht.und,hfd];rw[QET hft vs fd.offset (by omega) (by omega)];rfl
theorem QGi{cs:List AV}(hti:QU P ti)(hop:o.op= .field t x f)(ht:YZ P t=some ty)(hk:ty.kd= .struct fs)(hf:fs[f]? =some (fo,ft))(hft:ti ft=some fty)
  (hr:r x=some (.ag k cs)) (hl:(AV.ag k cs).lt nx=true) (hs:fo+fty.size<=k) (h0:fo<k):ZH P mem nx r o (ldA fty fo cs):=by
 obtain⟨u,i,ht⟩:=QE ht;obtain⟨uf,fi,hft⟩:=QE (hti _ _ hft);obtain⟨fields,rfl,hfl⟩:=Jg ht hk;obtain⟨fd,hfd,rfl,rfl⟩:=QES hfl hf;simp only[AV.lt,AV.lt2,ze]at hl;refine .of_run (QJb hl) λκ g a w hi ho=>?_;have h1:=ho x (by simp[hop,Op.operands]) _ hr;generalize ha:a.eval x=q at h1;cases h1 with|ag _ _ vs e1 e2 e3 e4=>?_
 refine⟨_,?_,QJa (f:=λj=>vs.getD j undef) e3 e4 (by omega) (by omega)⟩;simp only[execOp,hop,ha,Instr.field,asAgg,zp,zq,zg,run_underlying ht.und,hfd];rw[QET hft vs fd.offset (by omega) (by omega)];rfl
theorem XV(h:Z5 v=some (sz,es))(hu:AVR g v u):DR g.F (.fs sz es) u:=by
 unfold Z5 at h;split at h
 ·simp only[yo,xo]at h;obtain⟨rfl,rfl⟩:=h;cases hu;assumption
 ·simp only[yo,xo]at h;obtain⟨rfl,rfl⟩:=h;cases hu with
  |ts0=>assumption
  |ts=>assumption
 ·simp only[yo,xo]at h;obtain⟨rfl,rfl⟩:=h;cases hu;assumption
 ·simp only[yo,xo]at h;obtain⟨rfl,rfl⟩:=h;cases hu;exact .fs0 _ _ _
 ·cases h
theorem ZI{k:IntKind}{n:Int}(h:AVR g (.d (.it k n)) (a.eval x)):a.eval x= .int k n:=by
 generalize a.eval x=q at h;cases h with|d _ _ h=>cases h;rfl
theorem Jv{l:List UInt8}(h:AVR g (.d (.st l)) (a.eval x)):a.eval x= .string ⟨l.toArray⟩:=by
 generalize a.eval x=q at h;cases h with|d _ _ h=>cases h;rfl
theorem Jh(h:AVR g (.d (.bl b)) (a.eval x)):a.eval x= .bool b:=by
 generalize a.eval x=q at h;cases h with|d _ _ h=>cases h;rfl
theorem QAQ{e:Nat}{k:IntKind}{n:Int}{c:List D}(hti:QU P ti)(hop:o.op= .indexAddr t x y)(ht:YZ P t=some ty)(hk:ty.kd= .slice e)(he:ti e=some ety)
  (hx:r x=some v) (hv:Z5 v=some (sz,es)) (hy:r y=some (.d (.it k n))) (hsz:sz=ety.size) (hn:0<=n/\n<es.length) (hc:es[n.toNat]? =some c):ZH P mem nx r o (.d (.fp sz c)):=by
 obtain⟨u,i,ht⟩:=QE ht;obtain⟨ue,ie,het⟩:=QE (hti _ _ he);obtain rfl:=Q3 ht hk;refine .of_run rfl λκ g a w hi ho=>?_;have h1:=ho x (by simp[hop,Op.operands]) _ hx;have h2:=ZI (ho y (by simp[hop,Op.operands]) _ hy);have h3:=XV hv h1;generalize ha:a.eval x=q at h3;have hlt:n.toNat<es.length:=by omega
 have hcc:c=es[n.toNat]:=by rw[zj hlt]at hc;exact(za hc).symm
 cases h3 with
 |fs0=>simp at hlt
 |fs _ _ b off len cap vs hl hcap hs hF hd=>
  refine⟨.pointer (some ⟨b,off+n.toNat*sz,none⟩),?_,.d _ _ (.fp _ _ _ _ (λj=>vs n.toNat j) (by rw[hcc];exact hs _ hlt) (λj hj=>hF _ _ (by omega) hj) λj hj=>?_)⟩
  ·have hcond:(0:Int)<=n/\n<(len:Int):=by omega
   simp only[execOp,hop,ha,h2,Instr.indexAt,asIntOf,zp,zq,zg,run_underlying ht.und,ww];rw[if_pos hcond];simp only[zp,QV het.info,zg,zq,ZB,het.size,hsz]
  ·subst hcc;exact hd _ hlt j hj
theorem QBM{e len:Nat}{n:Int}(hti:QU P ti)(hop:o.op= .indexAddr t x y)(ht:YZ P t=some ty)(hk:ty.kd= .arr len e)(he:ti e=some ety)
  (hx:r x=some (.d (.fp k cs))) (hy:r y=some (.d (.it kk n))) (hle:len*ety.size<=k) (hn:0<=n/\n<len):ZH P mem nx r o (.d (.fp ety.size ((cs.drop (n.toNat*ety.size)).take ety.size))):=by
 obtain⟨u,i,ht⟩:=QE ht;obtain⟨ue,ie,het⟩:=QE (hti _ _ he);obtain rfl:=QAO ht hk;refine .of_run rfl λκ g a w hi ho=>?_;have h1:=ho x (by simp[hop,Op.operands]) _ hx;have h2:=ZI (ho y (by simp[hop,Op.operands]) _ hy);generalize ha:a.eval x=q at h1;cases h1 with|d _ _ h1=>?_
 cases h1 with|fp _ _ b off f hl hF hd=>?_
 have hm:n.toNat*ety.size+ety.size<=k:=by
  have:(n.toNat+1)*ety.size<=len*ety.size:=zw _ (by omega);rw[z2]at this;omega
 refine⟨.pointer (some ⟨b,off+n.toNat*ety.size,none⟩),?_,.d _ _ (.fp _ _ _ _ (λj=>f (n.toNat*ety.size+j)) (by simp;omega) (λj hj=>by rw[wl];exact hF _ (by omega)) λj hj=>?_)⟩
 ·have hcond:(0:Int)<=n/\n<(len:Int):=by omega
  simp only[execOp,hop,ha,h2,Instr.indexAt,asIntOf,Instr.sureAddr,zp,zq,zg,run_underlying ht.und,ww];rw[if_pos hcond];simp only[zp,QV het.info,zg,zq,ZB,het.size]
 ·simp only[zy,ym]at hj;simpa using hd (n.toNat*ety.size+j) (by omega)
theorem QEU{l:List UInt8}{k:IntKind}{n:Int}{c:UInt8}(hop:o.op= .index t x y)(ht:YZ P t=some ty)(hk:ty.kd= .string)
  (hx:r x=some (.d (.st l))) (hy:r y=some (.d (.it k n))) (hn:0<=n/\n<l.length) (hc:l[n.toNat]? =some c):ZH P mem nx r o (.d (.it .u8 c.toNat)):=by
 obtain⟨u,i,ht⟩:=QE ht;obtain rfl:=Z3 ht hk;refine .of_run rfl λκ g a w hi ho=>?_;have h1:=Jv (ho x (by simp[hop,Op.operands]) _ hx);have h2:=ZI (ho y (by simp[hop,Op.operands]) _ hy);refine⟨_,?_,.d _ _ (.it _ _)⟩;have hg:(⟨l.toArray⟩:ByteArray)[n.toNat]? =some c:=by
  have hlt:n.toNat<l.length:=by omega
  have h3:n.toNat<(⟨l.toArray⟩:ByteArray).size:=by simpa [ByteArray.size]using hlt
  rw[getElem?_pos (⟨l.toArray⟩:ByteArray) n.toNat h3];have h4:l[n.toNat]=c:=by rw[zj hlt]at hc;exact za hc
  rw[<-h4];rfl
 simp only[execOp,hop,h1,h2,Instr.index,asIntOf,zp,zq,zg,run_underlying ht.und,if_pos hn.1,hg]
theorem QEV{e len:Nat}{n:Int}(hti:QU P ti)(hop:o.op= .index t x y)(ht:YZ P t=some ty)(hk:ty.kd= .arr len e)(he:ti e=some ety)
  (hx:r x=some (.dg k cs)) (hy:r y=some (.d (.it kk n))) (hle:len*ety.size<=k) (h0:0<ety.size) (hn:0<=n/\n<len):ZH P mem nx r o (ldD ety (cs.drop (n.toNat*ety.size))):=by
 obtain⟨u,i,ht⟩:=QE ht;obtain⟨ue,ie,het⟩:=QE (hti _ _ he);obtain rfl:=QAO ht hk;refine .of_run QJc λκ g a w hi ho=>?_;have h1:=ho x (by simp[hop,Op.operands]) _ hx;have h2:=ZI (ho y (by simp[hop,Op.operands]) _ hy);generalize ha:a.eval x=q at h1;cases h1 with|dg _ _ vs e1 e2 e3=>?_
 have hm:n.toNat*ety.size+ety.size<=k:=by
  have:(n.toNat+1)*ety.size<=len*ety.size:=zw _ (by omega);rw[z2]at this;omega
 have hrel:∀j (h:j<(cs.drop (n.toNat*ety.size)).length),DR g.F (cs.drop (n.toNat*ety.size))[j] (vs.getD (n.toNat*ety.size+j) undef):=λj hj=>by
  simp only[ym]at hj;simpa using e3 (n.toNat*ety.size+j) (by omega)
 refine⟨_,?_,QGe (f:=λj=>vs.getD (n.toNat*ety.size+j) undef) hrel (by simp;omega) (by simp;omega)⟩;have hcond:(0:Int)<=n/\n<(len:Int):=by omega
 simp only[execOp,hop,ha,h2,Instr.index,asIntOf,zp,zq,zg,run_underlying ht.und,ww];rw[if_pos hcond];simp only[zp,QV het.info,zg,het.size];rw[QET het vs _ (by omega) (by omega)];rfl
theorem XG{v:Value}{k:IntKind}{n:Int}{y:Nat}{c:BoundsCode}(hv:v= .int k n)(h:0<=n/\n<=y)(w:World):(Instr.sliceBound v y c).run P w= .ok n.toNat w:=by
 subst hv;simp only[Instr.sliceBound,asIntOf,zp,zq,zg];rw[if_pos h];rfl
def bds(len cap:Nat)(lo hi mx:Option Int):Nat×Nat×Nat:=
 ((lo.map Int.toNat).getD 0,(hi.map Int.toNat).getD len,(mx.map Int.toNat).getD cap)
theorem X1(b:Bool)(len cap:Nat)(lo hi mx:Option Value)(i j m:Option Int)(h1:lo=i.map (.int .i64))(h2:hi=j.map (.int .i64))(h3:mx=m.map (.int .i64))(hm:mx.isSome->hi.isSome)
  (hle:len<=cap) (c1:∀x,i=some x->0<=x) (c2:∀x,j=some x->0<=x) (c3:∀x,m=some x->0<=x) (hlo:(bds len cap i j m).1<=(bds len cap i j m).2.1) (hhi:(bds len cap i j m).2.1<=(bds len cap i j m).2.2) (hmx:(bds len cap i j m).2.2<=cap) (w:World):
  (Instr.sliceBounds b len cap lo hi mx).run P w= .ok (bds len cap i j m) w:=by
 subst h1 h2 h3;simp only[bds]at*
 cases m with
 |none=>
  cases j with
  |none=>
   cases i with
   |none=>simp[Instr.sliceBounds]
   |some i=>
    simp at hlo hhi hmx;have c:=c1 i rfl;simp only[Instr.sliceBounds,Option.map,zp,zq,zg];rw[XG rfl ⟨c,by omega⟩];rfl
  |some j=>
   have c:=c2 j rfl;simp at hlo hhi hmx;cases i with
   |none=>
    simp only[Instr.sliceBounds,Option.map,zp,zq,zg];rw[XG rfl ⟨c,by omega⟩];rfl
   |some i=>
    simp at hlo;have c':=c1 i rfl;simp only[Instr.sliceBounds,Option.map,zp,zq,zg];rw[XG rfl ⟨c,by omega⟩];simp only[zg];rw[XG rfl ⟨c',by omega⟩];rfl
 |some m=>
  have cm:=c3 m rfl;cases j with
  |none=>simp at hm
  |some j=>
   have c:=c2 j rfl;simp at hlo hhi hmx;cases i with
   |none=>
    simp only[Instr.sliceBounds,Option.map,zp,zq,zg];rw[XG rfl ⟨cm,by omega⟩];simp only[zg];rw[XG rfl ⟨c,by omega⟩];rfl
   |some i=>
    simp at hlo;have c':=c1 i rfl;simp only[Instr.sliceBounds,Option.map,zp,zq,zg];rw[XG rfl ⟨cm,by omega⟩];simp only[zg];rw[XG rfl ⟨c,by omega⟩];simp only[zg];rw[XG rfl ⟨c',by omega⟩];rfl
theorem DR.sub{a:Option Addr}{len:Nat}(h:DR F (.fs sz es) (.slice a len cap)){j:Nat}(hij:i<=j)(hj:j<=es.length)(hjm:j<=m):
  DR F (.fs sz ((es.take j).drop i)) (.slice (if m=i then a else a.map (·.add (i*sz))) (j-i) (m-i)):=by
 by_cases he:j=i
 ·subst he;have:(es.take j).drop j=[]:=by simp
  rw[this,jx];exact .fs0 _ _ _
 ·have hpos:0<es.length:=by omega
  cases h with
  |fs0=>simp at hpos
  |fs _ _ b off len cap vs hl hcap hs hF hd=>
   rw[if_neg (by omega)];simp only[Option.map,ZB];refine .fs _ _ _ _ _ _ (λx y=>vs (i+x) y) (by simp;omega) (by omega) (λx hx=>?_) (λx y hx hy=>?_) λx hx y hy=>?_
   ·simp only[ym,zy]at hx;simp only[xm,xl];exact hs _ _
   ·have:=hF (i+x) y (by omega) hy;rw[z2]at this;rw[<-this];congr 1;omega
   ·simp only[ym,zy]at hx;simp only[xm,xl]at hy⊢;exact hd _ _ _ hy
def QH9(x:Option Operand)(i:Option Int)(r:Operand->Option AV):Prop:=
 match x,i with
 |none,none=>True
 |some x,some n=>r x=some (.d (.it .i64 n))
 |_,_=>False
theorem QBy{x:Option Operand}{i:Option Int}(h:QH9 x i r)(hm:∀y,x=some y->y∈o.op.operands.toList)(ho:∀x∈o.op.operands.toList,∀v,r x=some v->AVR g v (a.eval x)):x.map a.eval=i.map (.int .i64):=by
 cases x<;>cases i<;>simp only[QH9]at h
 ·rfl
 ·simp only[Option.map,yo];exact ZI (ho _ (hm _ rfl) _ h)
theorem XH{e:Nat}{mx:Option Operand}{i m:Option Int}(hti:QU P ti)(hop:o.op= .slice t x lo hi mx)(ht:YZ P t=some ty)(hk:ty.kd= .slice e)(he:ti e=some ety)
  (hx:r x=some v) (hv:Z5 v=some (sz,es)) (hsz:sz=ety.size) (h1:QH9 lo i r) (h2:QH9 hi j r) (h3:QH9 mx m r) (hm:mx.isSome->hi.isSome)
  (c1:∀x,i=some x->0<=x) (c2:∀x,j=some x->0<=x) (c3:∀x,m=some x->0<=x/\x<=es.length/\j=some x) (hlo:(i.map Int.toNat).getD 0<=(j.map Int.toNat).getD es.length) (hhi:(j.map Int.toNat).getD es.length<=es.length):
  ZH P mem nx r o (if mx.isSome then .tg sz ((es.take ((j.map Int.toNat).getD es.length)).drop ((i.map Int.toNat).getD 0))else .d (.fs sz ((es.take ((j.map Int.toNat).getD es.length)).drop ((i.map Int.toNat).getD 0)))):=by
 obtain⟨u,inf,ht⟩:=QE ht;obtain⟨ue,ie,het⟩:=QE (hti _ _ he);obtain rfl:=Q3 ht hk;refine .of_run (by split<;>rfl) λκ g a w hi' ho=>?_;have hxv:=XV hv (ho x (by simp[hop,Op.operands]) _ hx);have e1:=QBy (o:=o) (g:=g) (a:=a) h1 (λy hy=>by subst hy;simp[hop,Op.operands]) ho;have e2:=QBy (o:=o) (g:=g) (a:=a) h2 (λy hy=>by subst hy;simp[hop,Op.operands]) ho;have e3:=QBy (o:=o) (g:=g) (a:=a) h3 (λy hy=>by subst hy;simp[hop,Op.operands]) ho;generalize ha:a.eval x=q at hxv;have hq:∃ad len cap,q= .slice ad len cap/\len=es.length/\len<=cap:=by
  cases hxv with
  |fs0=>exact⟨_,_,_,rfl,rfl,z7 _⟩
  |fs=>exact⟨_,_,_,rfl,by omega,by omega⟩
 obtain⟨ad,len,cap,rfl,rfl,hcap⟩:=hq;have hmx:(mx.map a.eval).isSome->(hi.map a.eval).isSome:=λh=>by simpa using hm (by simpa using h)
 have hB:(bds es.length cap i j m).2.1<=(bds es.length cap i j m).2.2/\(bds es.length cap i j m).2.2<=cap:=by
  cases m with
  |none=>exact⟨xy (m:=es.length) hhi hcap,zt _⟩
  |some m=>
   obtain⟨q1,q2,q3⟩:=c3 m rfl;subst q3;simp only[bds,Option.map,Option.getD]at hhi⊢;exact⟨zt _,by omega⟩
 have hrun:=X1 (P:=P) true es.length cap (lo.map a.eval) (hi.map a.eval) (mx.map a.eval) i j m e1 e2 e3 hmx hcap c1 c2 (λx hx=>(c3 x hx).1) hlo hB.1 hB.2 w;refine⟨.slice (if(bds es.length cap i j m).2.2=(bds es.length cap i j m).1 then ad else ad.map (·.add ((bds es.length cap i j m).1*sz))) ((bds es.length cap i j m).2.1-(bds es.length cap i j m).1) ((bds es.length cap i j m).2.2-(bds es.length cap i j m).1),?_,?_⟩
 rotate_left
 ·have hd:=hxv.sub (i:=(bds es.length cap i j m).1) (j:=(bds es.length cap i j m).2.1) (m:=(bds es.length cap i j m).2.2) hlo hhi hB.1;split
  ·rename_i hs;have hmj:(bds es.length cap i j m).2.2=(bds es.length cap i j m).2.1:=by
    cases m with
    |none=>cases mx<;>simp[QH9]at h3 hs
    |some m=>
     obtain⟨q1,q2,q3⟩:=c3 m rfl;subst q3;rfl
   rw[hmj]at hd⊢;exact .tg _ _ _ _ (by simp only[bds]at*;simp;omega) hd
  ·exact .d _ _ hd
 ·simp only[execOp,hop,ha,Instr.sliceAt,zp,zq,zg,run_underlying ht.und,Instr.slice,hrun,QV het.info,het.size,<-hsz]
theorem QA8(l:List UInt8)(i j:Nat):(⟨l.toArray⟩:ByteArray).extract i j=⟨((l.take j).drop i).toArray⟩:=by
 apply qx;simp only[ByteArray.data_extract];apply Array.ext';simp[List.extract_eq_take_drop,List.drop_take]
theorem Y0{i:Option Int}{l:List UInt8}(hop:o.op= .slice t x lo hi none)(ht:YZ P t=some ty)(hk:ty.kd= .string)
  (hx:r x=some (.d (.st l))) (h1:QH9 lo i r) (h2:QH9 hi j r)
  (c1:∀x,i=some x->0<=x) (c2:∀x,j=some x->0<=x) (hlo:(i.map Int.toNat).getD 0<=(j.map Int.toNat).getD l.length) (hhi:(j.map Int.toNat).getD l.length<=l.length):
  ZH P mem nx r o (.d (.st ((l.take ((j.map Int.toNat).getD l.length)).drop ((i.map Int.toNat).getD 0)))):=by
 obtain⟨u,inf,ht⟩:=QE ht;obtain rfl:=Z3 ht hk;refine .of_run rfl λκ g a w hi' ho=>?_;have hxv:=Jv (ho x (by simp[hop,Op.operands]) _ hx);have e1:=QBy (o:=o) (g:=g) (a:=a) h1 (λy hy=>by subst hy;simp[hop,Op.operands]) ho;have e2:=QBy (o:=o) (g:=g) (a:=a) h2 (λy hy=>by subst hy;simp[hop,Op.operands]) ho;have hrun:=X1 (P:=P) false l.length l.length (lo.map a.eval) (hi.map a.eval) none i j none e1 e2 rfl (by simp) (zt _) c1 c2 (λx hx=>by cases hx) hlo (by simpa [bds]using hhi) (by simp[bds]) w;refine⟨_,?_,.d _ _ (.st _)⟩;rw[<-QA8];have hsz:(⟨l.toArray⟩:ByteArray).size=l.length:=by simp[ByteArray.size]
 have hmn:Option.map a.eval (none:Option Operand)=none:=rfl;simp only[execOp,hop,hxv,Instr.sliceAt,hmn,zp,zq,zg,run_underlying ht.und,Instr.slice,hsz,Option.isSome,yw,if_false,hrun,bds]
theorem QDd{k:IntKind}{a b:Int}{K:D->Prop}(h:QE2 op k a b K):∃z v,K z/\(∀F,DR F z v)/\∀(t:TypeId) (l:IntKind),(l=k\/op= .shl\/op= .shr)->∀w,(binOp op t (.int k a) (.int l b)).run P w= .ok v w:=by
 cases op<;>simp only[QE2]at h
 case shl=>exact⟨_,_,h.2.run,λF=> .it _ _,λt l hl w=>by simp[binOp,Op.shift,show¬b<0 by omega]⟩
 case shr=>exact⟨_,_,h.2.run,λF=> .it _ _,λt l hl w=>by simp[binOp,Op.shift,show¬b<0 by omega]⟩
 case quo=>exact⟨_,_,h.2.run,λF=> .it _ _,λt l hl w=>by obtain rfl:=hl.resolve_right (by simp);simp[binOp,Op.intDiv,h.1]⟩
 case rem=>exact⟨_,_,h.2.run,λF=> .it _ _,λt l hl w=>by obtain rfl:=hl.resolve_right (by simp);simp[binOp,Op.intDiv,h.1]⟩
 case and=>exact⟨_,_,h.run,λF=> .it _ _,λt l hl w=>by obtain rfl:=hl.resolve_right (by simp);simp[binOp,Op.intBits]⟩
 case or=>exact⟨_,_,h.run,λF=> .it _ _,λt l hl w=>by obtain rfl:=hl.resolve_right (by simp);simp[binOp,Op.intBits]⟩
 case xor=>exact⟨_,_,h.run,λF=> .it _ _,λt l hl w=>by obtain rfl:=hl.resolve_right (by simp);simp[binOp,Op.intBits]⟩
 case andNot=>exact⟨_,_,h.run,λF=> .it _ _,λt l hl w=>by obtain rfl:=hl.resolve_right (by simp);simp[binOp,Op.intBits]⟩
 case add=>exact⟨_,_,h.run,λF=> .it _ _,λt l hl w=>by obtain rfl:=hl.resolve_right (by simp);simp[binOp,Op.intArith]⟩
 case sub=>exact⟨_,_,h.run,λF=> .it _ _,λt l hl w=>by obtain rfl:=hl.resolve_right (by simp);simp[binOp,Op.intArith]⟩
 case mul=>exact⟨_,_,h.run,λF=> .it _ _,λt l hl w=>by obtain rfl:=hl.resolve_right (by simp);simp[binOp,Op.intArith]⟩
 all_goals exact⟨_,_,h,λF=> .bl _,λt l hl w=>by obtain rfl:=hl.resolve_right (by simp);simp[binOp,Op.intCmp]⟩
theorem X2(l:List UInt8):(⟨l.toArray⟩:ByteArray).toList=l:=by rw[ByteArray.toList_eq]
theorem QLz(a b:List UInt8):(⟨a.toArray⟩:ByteArray)++⟨b.toArray⟩=⟨(a++b).toArray⟩:=by
 apply qx;simp[qh]
theorem QQH{a b:List UInt8}{K:D->Prop}(h:QR7 op a b K):∃z v,K z/\(∀F,DR F z v)/\∀(t:TypeId) w,(binOp op t (.string ⟨a.toArray⟩) (.string ⟨b.toArray⟩)).run P w= .ok v w:=by
 have hsz:∀l:List UInt8,(⟨l.toArray⟩:ByteArray).size=l.length:=λl=>by simp[ByteArray.size]
 cases op<;>simp only[QR7]at h
 case add=>
  refine⟨_,_,h.2,λF=> .st _,λt w=>?_⟩;have hmax:IntKind.i64.max=9223372036854775807:=by decide
  have:¬(((a.length+b.length:Nat):Int)>IntKind.i64.max):=by rw[hmax];omega
  simp only[binOp,Op.stringOp,hsz,if_neg this,QLz];rfl
 case eql=>exact⟨_,_,h,λF=> .bl _,λt w=>by simp[binOp,Op.stringOp,X2]⟩
 case neq=>exact⟨_,_,h,λF=> .bl _,λt w=>by simp[binOp,Op.stringOp,X2]⟩
 case lss=>exact⟨_,_,h,λF=> .bl _,λt w=>by simp[binOp,Op.stringOp,X2]⟩
 case leq=>exact⟨_,_,h,λF=> .bl _,λt w=>by simp[binOp,Op.stringOp,X2]⟩
 case gtr=>exact⟨_,_,h,λF=> .bl _,λt w=>by simp[binOp,Op.stringOp,X2]⟩
 case geq=>exact⟨_,_,h,λF=> .bl _,λt w=>by simp[binOp,Op.stringOp,X2]⟩
theorem Xo(op:BinOp)(t:TypeId)(x y:Operand)(u v:Value)(h:(∃k n,u= .int k n)\/(∃s,u= .string s)\/(∃b,u= .bool b))(w:World):(eqGuard op t x y u v).run P w= .ok () w:=by
 rcases h with⟨k,n,rfl⟩|⟨s,rfl⟩|⟨b,rfl⟩<;>cases op<;>simp[eqGuard]
end
def QEW:D->Value->Bool
 | .bl _,.bool _=>true
 | .it k _,.int l _=>decide (k=l)
 | .st _,.string _=>true
 |_,_=>false
def eqV:Value->Value->Bool
 | .bool a,.bool b=>a==b
 | .int _ a,.int _ b=>a==b
 | .string a,.string b=>a.toList==b.toList
 |_,_=>false
def Z9:List D->Array Value->Nat->Bool
 |[],_,_=>true
 |z::r,xs,o=>QEW z (xs.getD o undef)&&Z9 r xs (o+1)
def eqA:Nat->Array Value->Array Value->Nat->Bool
 |0,_,_,_=>true
 |n+1,xs,ys,o=>eqV (xs.getD o undef) (ys.getD o undef)&&eqA n xs ys (o+1)
def vOf(agg:Bool)(xs:Array Value):Value:=if agg then .agg xs else xs.getD 0 undef
theorem Jw:∀(a b:List D) (xs:Array Value) (o:Nat),Z9 (a++b) xs o=(Z9 a xs o&&Z9 b xs (o+a.length))
 |[],b,xs,o=>by simp[Z9]
 |z::r,b,xs,o=>by
  simp only[qe,Z9,Jw r b xs (o+1),yq,W5];congr 3;omega
theorem QBN:∀(a b:Nat) (xs ys:Array Value) (o:Nat),eqA (a+b) xs ys o=(eqA a xs ys o&&eqA b xs ys (o+a))
 |0,b,xs,ys,o=>by simp[eqA]
 |a+1,b,xs,ys,o=>by
  rw[Nat.add_right_comm];simp only[eqA,QBN a b xs ys (o+1),W5];congr 3;omega
theorem Yh(xs:Array Value)(o n j:Nat)(hj:j<n)(h:o+n<=xs.size):(xs.extract o (o+n)).getD j undef=xs.getD (o+j) undef:=by
 have h1:j<(xs.extract o (o+n)).size:=by rw[Array.size_extract];omega
 have h2:o+j<xs.size:=by omega
 rw[Array.getD,dif_pos h1,Array.getD,dif_pos h2];simp
theorem XQ:∀(z:List D) (xs:Array Value) (o n j:Nat),o+n<=xs.size->j+z.length<=n->Z9 z (xs.extract o (o+n)) j=Z9 z xs (o+j)
 |[],_,_,_,_,_,_=>rfl
 |d::r,xs,o,n,j,h,hj=>by
  simp only[yq]at hj;simp only[Z9];rw[Yh xs o n j (by omega) h,XQ r xs o n (j+1) h (by omega)];rfl
theorem QAR:∀(m:Nat) (xs ys:Array Value) (o n j:Nat),o+n<=xs.size->o+n<=ys.size->j+m<=n->eqA m (xs.extract o (o+n)) (ys.extract o (o+n)) j=eqA m xs ys (o+j)
 |0,_,_,_,_,_,_,_,_=>rfl
 |m+1,xs,ys,o,n,j,h,h',hj=>by
  simp only[eqA];rw[Yh xs o n j (by omega) h,Yh ys o n j (by omega) h',QAR m xs ys o n (j+1) h h' (by omega)];rfl
section
variable {P:Program}
theorem QAk{u:TypeDesc}{i:TypeInfo}(hu:P.underlying t=some u)(hi:P.info? t=some i)(xs:Array Value)(o:Nat)(h:o+i.size<=xs.size)(h1:(XU u).agg=false->i.size=1)(w:World):
  (part t xs o).run P w= .ok (vOf (XU u).agg (xs.extract o (o+i.size))) w:=by
 simp only[part,zp,Jt hu,zg];cases ha:(XU u).agg with
 |true=>simp only[if_true,zp,QV hi,zg,zq,vOf]
 |false=>
  simp only[yw,if_false,vOf];have h2:=h1 ha;have h3:o<xs.size:=by omega
  rw[Yh xs o i.size 0 (by omega) h];simp[h3,Array.getD]
def QR9(P:Program)(t:Nat)(z:List D)(n:Nat):Prop:=
 ∃u i,P.underlying t=some u/\P.info? t=some i/\i.size=z.length/\((XU u).agg=false->z.length=1)/\
  ∀d,n<=d->∀xs ys:Array Value,xs.size=z.length->ys.size=z.length->Z9 z xs 0=true->Z9 z ys 0=true->∀w,(Op.equalIn d t (vOf (XU u).agg xs) (vOf (XU u).agg ys)).run P w= .ok (eqA z.length xs ys 0) w
theorem QBz{K:Nat->Option (List D)}{n:Nat}(hK:∀t z,K t=some z->QR9 P t z n){d:Nat}(hd:n<=d)(xs ys:Array Value)(hxy:xs.size=ys.size):∀(fs:List Field) (o:Nat) (z:List D),QGd K fs o=some z->o+z.length<=xs.size->
  Z9 z xs o=true->Z9 z ys o=true->∀w,(Op.eqFields d xs ys fs).run P w= .ok (eqA z.length xs ys o) w
 |[],o,z,h,hz,l1,l2,w=>by
  obtain rfl:=za h;rfl
 |f::r,o,z,h,hz,l1,l2,w=>by
  simp only[QGd]at h;cases hc:(f.offset==o&&f.name != "_")with
  |false=>rw[hc]at h;cases h
  |true=>
   rw[hc]at h;simp only[cond_true]at h;simp only[zf,beq_iff_eq,bne_iff_ne]at hc;split at h
   case h_2=>cases h
   rename_i q l hl;split at h
   case h_2=>cases h
   rename_i l' hl';obtain rfl:=za h;simp only[zu]at hz⊢;rw[Jw,zf]at l1 l2;obtain⟨u,i,e1,e2,e3,e4,e5⟩:=hK _ _ hl;have ih:=QBz hK hd xs ys hxy r (o+l.length) l' hl' (by omega) l1.2 l2.2 w;have p1:=QAk e1 e2 xs f.offset (by rw[hc.1,e3];omega) (λh=>by rw[e3];exact e4 h) w;have p2:=QAk e1 e2 ys f.offset (by rw[hc.1,e3,<-hxy];omega) (λh=>by rw[e3];exact e4 h) w;have q:=e5 d hd (xs.extract f.offset (f.offset+i.size)) (ys.extract f.offset (f.offset+i.size)) (by simp[hc.1,e3];omega) (by simp[hc.1,e3,<-hxy];omega)
    (by rw[XQ _ _ _ _ _ (by rw[hc.1,e3];omega) (by omega),hc.1];exact l1.1) (by rw[XQ _ _ _ _ _ (by rw[hc.1,e3,<-hxy];omega) (by omega),hc.1];exact l2.1) w
   rw[QAR _ _ _ _ _ _ (by rw[hc.1,e3];omega) (by rw[hc.1,e3,<-hxy];omega) (by omega),hc.1]at q;rw[hc.1]at p1 p2;simp only[Op.eqFields,if_pos hc.2,zp,hc.1,p1,p2,zg,q,ww,QBN,x6];cases eqA l.length xs ys o with
   |true=>simp[ih]
   |false=>simp
theorem QEX{n:Nat}{e:Nat}{z:List D}(hK:QR9 P e z n){d:Nat}(hd:n<=d)(xs ys:Array Value)(hxy:xs.size=ys.size){i:TypeInfo}(hi:P.info? e=some i):∀(len k:Nat),k*z.length+len*z.length<=xs.size->
  (∀j,j<len->Z9 z xs ((k+j)*z.length)=true)->(∀j,j<len->Z9 z ys ((k+j)*z.length)=true)->∀w,
  (forIn (List.range' k len) ((none,()):Option Bool×Unit) (λi r=>do
   let a <-part e xs (i*z.length)
   let b <-part e ys (i*z.length)
   let q <-Op.equalIn d e a b
   if(!q)=true then pure (ForInStep.done (some false,()))else pure (ForInStep.yield (none,()))):Sem (Option Bool×Unit)).run P w= .ok (if eqA (len*z.length) xs ys (k*z.length)then(none,())else(some false,())) w
 |0,k,_,_,_,w=>by simp[eqA]
 |len+1,k,hz,l1,l2,w=>by
  obtain⟨u,i',e1,e2,e3,e4,e5⟩:=hK;rw[hi]at e2;obtain rfl:=za e2;rw[z2,j9]at hz;have ih:=QEX ⟨u,i,e1,hi,e3,e4,e5⟩ hd xs ys hxy hi len (k+1) (by rw[z2,j9];omega) (λj hj=>by rw[wl,ql 1 j];exact l1 (j+1) (by omega)) (λj hj=>by rw[wl,ql 1 j];exact l2 (j+1) (by omega)) w;have p1:=QAk e1 hi xs (k*z.length) (by rw[e3];omega) (λh=>by rw[e3];exact e4 h) w;have p2:=QAk e1 hi ys (k*z.length) (by rw[e3,<-hxy];omega) (λh=>by rw[e3];exact e4 h) w;have q:=e5 d hd (xs.extract (k*z.length) (k*z.length+i.size)) (ys.extract (k*z.length) (k*z.length+i.size)) (by simp[e3];omega) (by simp[e3,<-hxy];omega)
    (by rw[XQ _ _ _ _ _ (by rw[e3];omega) (by omega)];simpa using l1 0 (by omega)) (by rw[XQ _ _ _ _ _ (by rw[e3,<-hxy];omega) (by omega)];simpa using l2 0 (by omega)) w
  rw[QAR _ _ _ _ _ _ (by rw[e3];omega) (by rw[e3,<-hxy];omega) (by omega)]at q;have hs:(len+1)*z.length=z.length+len*z.length:=by rw[z2,j9,ql]
  simp only[List.range'_succ,Wz,zp,p1,p2,zg,q,ww,hs,QBN,x6];cases eqA z.length xs ys (k*z.length)with
  |true=>
   simp only[vw,yw,if_false,zp,zq,zg,ih,wz];rw[show(k+1)*z.length=k*z.length+z.length by rw[z2,j9]]
  |false=>simp
theorem QBO:∀(len:Nat) (l:List D) (xs:Array Value) (o:Nat),Z9 (QJW len l) xs o=true->∀j,j<len->Z9 l xs (o+j*l.length)=true
 |0,_,_,_,_,j,hj=>by omega
 |len+1,l,xs,o,h,j,hj=>by
  simp only[QJW,Jw,zf]at h;cases j with
  |zero=>simpa using h.1
  |succ j=>
   have:=QBO len l xs (o+l.length) h.2 j (by omega);rw[show o+(j+1)*l.length=o+l.length+j*l.length by rw[z2];omega];exact this
theorem QC3(n:Nat)(l:List D):(QJW n l).length=n*l.length:=by
 induction n with
 |zero=>simp[QJW]
 |succ n ih=>simp[QJW,ih,z2];omega
theorem QB0:∀(n:Nat) (t:Nat) (z:List D),QEO P n t=some z->QR9 P t z n
 |0,t,z,h=>by cases h
 |n+1,t,z,h=>by
  simp only[QEO]at h;split at h
  case h_2=>cases h
  rename_i l i hl hi;cases hs:(i.size==l.length)with
  |false=>rw[hs]at h;cases h
  |true=>
   rw[hs]at h;obtain rfl:=za h;have hs':i.size=l.length:=by simpa using hs
   split at hl
   ·rename_i hu;obtain rfl:=za hl;refine⟨_,i,hu,hi,hs',λ_=>rfl,λd hd xs ys h1 h2 l1 l2 w=>?_⟩;obtain⟨d,rfl⟩:∃e,d=e+1:=⟨d-1,by omega⟩;simp only[Z9,wh,XU,Kd.agg,vOf,yw,if_false,eqA,yq,xv]at*
    generalize xs.getD 0 undef=a at*
    generalize ys.getD 0 undef=b at*
    cases a<;>simp only[QEW]at l1<;>first|(cases l1;done)|skip
    cases b<;>simp only[QEW]at l2<;>first|(cases l2;done)|skip
    exact run_equalIn_bool' w d t _ _ hu
   ·rename_i k hu;obtain rfl:=za hl;refine⟨_,i,hu,hi,hs',λ_=>rfl,λd hd xs ys h1 h2 l1 l2 w=>?_⟩;obtain⟨d,rfl⟩:∃e,d=e+1:=⟨d-1,by omega⟩;simp only[Z9,wh,XU,Kd.agg,vOf,yw,if_false,eqA,yq,xv]at*
    generalize xs.getD 0 undef=a at*
    generalize ys.getD 0 undef=b at*
    cases a<;>simp only[QEW]at l1<;>first|(cases l1;done)|skip
    cases b<;>simp only[QEW]at l2<;>first|(cases l2;done)|skip
    obtain rfl:=of_decide_eq_true l1;obtain rfl:=of_decide_eq_true l2;exact run_equalIn_int w d t _ _ _ _ hu
   ·rename_i hu;obtain rfl:=za hl;refine⟨_,i,hu,hi,hs',λ_=>rfl,λd hd xs ys h1 h2 l1 l2 w=>?_⟩;obtain⟨d,rfl⟩:∃e,d=e+1:=⟨d-1,by omega⟩;simp only[Z9,wh,XU,Kd.agg,vOf,yw,if_false,eqA,yq,xv]at*
    generalize xs.getD 0 undef=a at*
    generalize ys.getD 0 undef=b at*
    cases a<;>simp only[QEW]at l1<;>first|(cases l1;done)|skip
    cases b<;>simp only[QEW]at l2<;>first|(cases l2;done)|skip
    exact run_equalIn_string w d t _ _ hu
   ·rename_i fs hu;cases hp:P.stoodInHeld t with
    |true=>rw[hp]at hl;cases hl
    |false=>
     rw[hp]at hl;simp only[cond_false]at hl;have hf:P.fieldsOf t=fs:=by simp[Program.fieldsOf,hu]
     refine⟨_,i,hu,hi,hs',(λh=>by cases h),λd hd xs ys h1 h2 l1 l2 w=>?_⟩;obtain⟨d,rfl⟩:∃e,d=e+1:=⟨d-1,by omega⟩;simp only[XU,Kd.agg,vOf,if_true];rw[run_equalIn_struct w d t xs ys (by rw[hf];exact hu) hp,hf];exact QBz (λt z h=>QB0 n t z h) (by omega) xs ys (by omega) fs.toList 0 l hl (by omega) l1 l2 w
   ·rename_i len e hu;split at hl
    case h_2=>cases hl
    rename_i z hz;obtain rfl:=za hl;have hE:=QB0 n e z hz;obtain⟨u,j,e1,e2,e3,e4,e5⟩:=hE;refine⟨_,i,hu,hi,hs',(λh=>by cases h),λd hd xs ys h1 h2 l1 l2 w=>?_⟩;obtain⟨d,rfl⟩:∃e,d=e+1:=⟨d-1,by omega⟩;rw[QC3]at h1 h2;have lp:=QEX (P:=P) ⟨u,j,e1,e2,e3,e4,e5⟩ (d:=d) (by omega) xs ys (by omega) e2 len 0 (by omega) (λq hq=>by simpa using QBO len z xs 0 l1 q hq) (λq hq=>by simpa using QBO len z ys 0 l2 q hq) w;simp only[XU,Kd.agg,vOf,if_true,Op.equalIn,zp,run_underlying hu,zg,QV e2,e3];rw[Std.Legacy.Range.forIn_eq_forIn_range'];have hsz:(List.range' [:len].start [:len].size [:len].step)=List.range' 0 len:=by simp[Std.Legacy.Range.size]
    rw[hsz,lp];simp only[zg,kr,QC3];cases eqA (len*z.length) xs ys 0<;>rfl
   ·cases hl
end
theorem QJd{F:Nat->Nat->Option Value}{xs ys:Array Value}:∀ {z cs ds:List D} {o:Nat},Q1 z cs=true->Q1 z ds=true->
  (∀j (h:j<cs.length),DR F cs[j] (xs.getD (o+j) undef))->(∀j (h:j<ds.length),DR F ds[j] (ys.getD (o+j) undef))->
  Z9 z xs o=true/\Z9 z ys o=true/\eqA z.length xs ys o=Yg cs ds/\cs.length=z.length/\ds.length=z.length
 |[],cs,ds,o,h1,h2,_,_=>by
  cases cs<;>simp only[Q1]at h1
  ·cases ds<;>simp only[Q1]at h2
   ·exact ⟨rfl,rfl,rfl,rfl,rfl⟩
   ·cases h2
  ·cases h1
 |a::z,[],ds,o,h1,h2,_,_=>by cases h1
 |a::z,c::cs,[],o,h1,h2,_,_=>by cases h2
 |a::z,c::cs,d::ds,o,h1,h2,hc,hd=>by
  simp only[Q1,zf]at h1 h2;have ih:=QJd (z:=z) (cs:=cs) (ds:=ds) (o:=o+1) (F:=F) (xs:=xs) (ys:=ys) h1.2 h2.2 (λj hj=>by rw[show o+1+j=o+(j+1) by omega];exact hc (j+1) (by simpa using hj)) (λj hj=>by rw[show o+1+j=o+(j+1) by omega];exact hd (j+1) (by simpa using hj));obtain⟨i1,i2,i3,i4,i5⟩:=ih;have r1:=hc 0 (by simp);have r2:=hd 0 (by simp);simp only[wp,x6]at r1 r2;simp only[Z9,eqA,Yg,yq,i1,i2,i3,i4,i5,wh];generalize xs.getD o undef=u at r1;generalize ys.getD o undef=v at r2;have l1:=h1.1;have l2:=h2.1;cases a<;>cases c<;>simp only[JP]at l1<;>first|(cases l1;done)|skip
  all_goals cases d<;>simp only[JP]at l2<;>first|(cases l2;done)|skip
  all_goals cases r1;cases r2
  ·exact ⟨rfl,rfl,rfl,trivial,trivial⟩
  ·exact ⟨l1,l2,rfl,trivial,trivial⟩
  ·exact ⟨rfl,rfl,by simp only[eqV,eqD,X2],trivial,trivial⟩
section
variable {P:Program} {ti:Nat->Option Ty} {mem:List (Nat×Ob)} {nx:Nat} {r:Operand->Option AV} {o:Oper} {K:AV->Prop}
theorem QJe{u:AV}{K:D->Prop}(hti:QU P ti)(hop:o.op= .binOp op t x y t')(hx:r x=some u)(hy:r y=some v)(h:QR8 ti op t u v K):∃z,K z/\ZH P mem nx r o (.d z):=by
 have mx:x∈o.op.operands.toList:=by simp[hop,Op.operands]
 have my:y∈o.op.operands.toList:=by simp[hop,Op.operands]
 unfold QR8 at h;split at h
 ·rename_i k a l b;have key:∀z w,K z->(∀F,DR F z w)->(∀W,(binOp op t (.int k a) (.int l b)).run P W= .ok w W)->∃z,K z/\ZH P mem nx r o (.d z):=λz w hK hD hr=>
   ⟨z,hK,.of_run rfl λκ g A W hi ho=>⟨w,by
    have h1:=ZI (ho x mx _ hx);have h2:=ZI (ho y my _ hy);simp only[execOp,hop,h1,h2,zp,Xo op t x y _ _ (.inl ⟨_,_,rfl⟩),zg,hr,zq],.d _ _ (hD _)⟩⟩
  split at h
  ·obtain ⟨z,w,hK,hD,hr⟩:=QDd h;exact key z w hK hD λW=>hr t l (.inr (.inl rfl)) W
  ·obtain ⟨z,w,hK,hD,hr⟩:=QDd h;exact key z w hK hD λW=>hr t l (.inr (.inr rfl)) W
  ·cases hkl:decide (k=l)with
   |false=>rw[hkl]at h;exact h.elim
   |true=>
    rw[hkl]at h;obtain⟨z,w,hK,hD,hr⟩:=QDd h;exact key z w hK hD λW=>hr t l (.inl (of_decide_eq_true hkl).symm) W
 ·rename_i a b;obtain⟨z,w,hK,hD,hr⟩:=QQH (P:=P) h;exact⟨z,hK,.of_run rfl λκ g A W hi ho=>⟨w,by
   have h1:=Jv (ho x mx _ hx);have h2:=Jv (ho y my _ hy);simp only[execOp,hop,h1,h2,zp,Xo op t x y _ _ (.inr (.inl ⟨_,rfl⟩)),zg,hr t W,zq],.d _ _ (hD _)⟩⟩
 ·rename_i a b;split at h
  ·rename_i hty;obtain⟨tu,i,ht⟩:=QE (hti _ _ hty);obtain rfl:=QGg ht rfl;exact⟨_,h,.of_run rfl λκ g A W hi ho=>⟨.bool (a==b),by
    have h1:=Jh (ho x mx _ hx);have h2:=Jh (ho y my _ hy);simp only[execOp,hop,h1,h2,zp,Xo _ t x y _ _ (.inr (.inr ⟨_,rfl⟩)),zg,binOp,Op.equal,Op.maxDepth,run_equalIn_bool' W 9999 t a b ht.und,zq],.d _ _ (.bl _)⟩⟩
  ·rename_i hty;obtain⟨tu,i,ht⟩:=QE (hti _ _ hty);obtain rfl:=QGg ht rfl;exact⟨_,h,.of_run rfl λκ g A W hi ho=>⟨.bool (!(a==b)),by
    have h1:=Jh (ho x mx _ hx);have h2:=Jh (ho y my _ hy);simp only[execOp,hop,h1,h2,zp,Xo _ t x y _ _ (.inr (.inr ⟨_,rfl⟩)),zg,binOp,Op.equal,Op.maxDepth,run_equalIn_bool' W 9999 t a b ht.und,zq],.d _ _ (.bl _)⟩⟩
  ·exact h.elim
 ·rename_i k1 cs k2 ds;split at h
  case h_2=>exact h.elim
  rename_i ty hty;obtain⟨tu,i,ht⟩:=QE (hti _ _ hty);split at h
  case h_2=>exact h.elim
  rename_i z hz;cases hl:(ty.kd.agg&&(Q1 z cs&&Q1 z ds))with
  |false=>rw[hl]at h;exact h.elim
  |true=>
   rw[hl]at h;simp only[cond_true,zf]at h hl;have hcmp:=ht.cmp;rw[hz]at hcmp;cases hg:P.eqGuardType P.depth t with
   |true=>rw[hg]at hcmp;cases hcmp
   |false=>
    rw[hg]at hcmp;obtain⟨u',i',e1,e2,e3,e4,e5⟩:=QB0 6 t z hcmp.symm;have run:∀(κ:Ctx) (g:Gh) (A:Act) (W:World),Inv κ g mem W->(∀x∈o.op.operands.toList,∀v,r x=some v->AVR g v (A.eval x))->∃xs ys,A.eval x= .agg xs/\A.eval y= .agg ys/\(Op.equalIn 10000 t (.agg xs) (.agg ys)).run P W= .ok (Yg cs ds) W:=by
     intro κ g A W hi ho;have h1:=ho x mx _ hx;have h2:=ho y my _ hy;generalize A.eval x=p at h1;generalize A.eval y=q at h2;cases h1 with|dg _ _ xs a1 a2 a3=>?_
     cases h2 with|dg _ _ ys b1 b2 b3=>?_
     refine⟨xs,ys,rfl,rfl,?_⟩;obtain⟨j1,j2,j3,j4,j5⟩:=QJd (F:=g.F) (xs:=xs) (ys:=ys) (o:=0) hl.2.1 hl.2.2 (by simpa using a3) (by simpa using b3);have hagg:(XU u').agg=true:=by
      have:some u'=some tu:=e1.symm.trans ht.und;rw[za this,ht.kd];exact hl.1
     have:=e5 10000 (by omega) xs ys (by omega) (by omega) j1 j2 W;rw[hagg,j3]at this;exact this
    split at h
    ·exact ⟨_,h,.of_run rfl λκ g A W hi ho=>by
      obtain⟨xs,ys,q1,q2,q3⟩:=run κ g A W hi ho;exact⟨.bool (Yg cs ds),by simp only[execOp,hop,q1,q2,zp,run_eqGuard_agg W .eql t x y xs ys hg,zg,run_eql_struct,q3,zq],.d _ _ (.bl _)⟩⟩
    ·exact ⟨_,h,.of_run rfl λκ g A W hi ho=>by
      obtain⟨xs,ys,q1,q2,q3⟩:=run κ g A W hi ho;exact⟨.bool (!Yg cs ds),by simp only[execOp,hop,q1,q2,zp,run_eqGuard_agg W .neq t x y xs ys hg,zg,run_neq_struct,q3,zq],.d _ _ (.bl _)⟩⟩
    ·exact h.elim
 ·exact h.elim
theorem QN5(hop:o.op= .unOp .not t x)(hx:r x=some (.d (.bl b))):ZH P mem nx r o (.d (.bl !b)):=
 .of_run rfl λκ g A W hi ho=>⟨_,by
  have h1:=Jh (ho x (by simp[hop,Op.operands]) _ hx);simp only[execOp,hop,h1,Op.unary,zp,zq,zg],.d _ _ (.bl _)⟩
theorem QN6{k:IntKind}{n:Int}(hop:o.op= .unOp .neg t x)(hx:r x=some (.d (.it k n))):ZH P mem nx r o (.d (.it k (k.wrap (0-n)))):=
 .of_run rfl λκ g A W hi ho=>⟨_,by
  have h1:=ZI (ho x (by simp[hop,Op.operands]) _ hx);simp only[execOp,hop,h1,Op.unary,Op.intArith,zp,zq,zg],.d _ _ (.it _ _)⟩
theorem QE4{l k j:IntKind}{n:Int}(hti:QU P ti)(hop:o.op= .convert s t x)(hs:ti s=some sty)(hsk:sty.kd= .int l)(ht:ti t=some ty)(hk:ty.kd= .int k)(hx:r x=some (.d (.it j n))):ZH P mem nx r o (.d (.it k (k.wrap n))):=by
 obtain⟨u,i,hs⟩:=QE (hti _ _ hs);obtain⟨u',i',ht⟩:=QE (hti _ _ ht);obtain rfl:=QAP hs hsk;obtain rfl:=QAP ht hk;exact .of_run rfl λκ g A W hi ho=>⟨_,by
  have h1:=ZI (ho x (by simp[hop,Op.operands]) _ hx);simp only[execOp,hop,h1,convert,Conv.intToInt,zp,run_underlying hs.und,run_underlying ht.und,zq,zg],.d _ _ (.it _ _)⟩
theorem QE5{l:List UInt8}(hti:QU P ti)(hop:o.op= .convert s t x)(hs:ti s=some sty)(hsk:sty.kd= .string)(ht:ti t=some ty)(hk:ty.kd= .string)(hx:r x=some (.d (.st l))):ZH P mem nx r o (.d (.st l)):=by
 obtain⟨u,i,hs⟩:=QE (hti _ _ hs);obtain⟨u',i',ht⟩:=QE (hti _ _ ht);obtain rfl:=Z3 hs hsk;obtain rfl:=Z3 ht hk;exact .of_run rfl λκ g A W hi ho=>⟨_,by
  have h1:=Jv (ho x (by simp[hop,Op.operands]) _ hx);simp only[execOp,hop,h1,convert,zp,run_underlying hs.und,run_underlying ht.und,zq,zg],.d _ _ (.st _)⟩
theorem QBP:∀(l:List UInt8) (acc:ByteArray),(l.map λb=>(b.toNat:Int)).foldl (λr n=>r.push (UInt8.ofNat n.toNat)) acc=acc++⟨l.toArray⟩
 |[],acc=>by
  simp only[uw,List.foldl_nil];apply qx;simp[qh]
 |b::l,acc=>by
  simp only[w8,List.foldl_cons];rw[QBP l];apply qx;simp[qh,ByteArray.data_push]
theorem QDK{e:Nat}{l:List UInt8}(hti:QU P ti)(hop:o.op= .convert s t x)(hs:ti s=some sty)(hsk:sty.kd= .slice e)(ht:ti t=some ty)(hk:ty.kd= .string)(he:ti e=some ety)(hek:ety.kd= .int .u8)
  (hx:r x=some v) (hv:Z5 v=some (1,es)) (hl:es=QD l):ZH P mem nx r o (.d (.st l)):=by
 obtain⟨u,i,hs⟩:=QE (hti _ _ hs);obtain⟨u',i',ht⟩:=QE (hti _ _ ht);obtain⟨u'',i'',he⟩:=QE (hti _ _ he);obtain rfl:=Q3 hs hsk;obtain rfl:=Z3 ht hk;obtain rfl:=QAP he hek;refine .of_run rfl λκ g A W hi ho=>?_;have h1:=XV hv (ho x (by simp[hop,Op.operands]) _ hx);generalize ha:A.eval x=q at h1;subst hl;have main:∃ad len cap,q= .slice ad len cap/\(Conv.bytesToString (.slice ad len cap)).run P W= .ok (.string ⟨l.toArray⟩) W:=by
  generalize hes:QD l=es at h1;cases h1 with
  |fs0 _ ad cap=>
   have hl0:l=[]:=by cases l<;>simp[QD]at hes⊢
   subst hl0;refine⟨ad,0,cap,rfl,?_⟩;cases ad with
   |none=>rfl
   |some ad=>
    rw[run_bytesToString W ad 0 cap [] (by simp[loadCells,loadCellsFrom])];rfl
  |fs _ _ b off len cap vs hl hcap hs' hF hd=>
   subst hes;have hlen:l.length=len:=by simpa [QD]using hl
   refine⟨_,_,_,rfl,?_⟩;have hval:∀j (h:j<l.length),vs j 0= .int .u8 l[j].toNat:=λj hj=>by
    have hj':j<(QD l).length:=by simpa [QD]using hj
    have hr:=hd j hj' 0 (by simp[QD]);simp only[QD,z1,wp]at hr;generalize vs j 0=z at hr;cases hr;rfl
   have hld:(loadCells ⟨b,off,none⟩ len).run P W= .ok ((l.map λb=>(b.toNat:Int)).map (Value.int .u8)).toArray W:=by
    have:=run_loadCells_list (P:=P) (w:=W) ⟨b,off,none⟩ ((l.map λb=>(b.toNat:Int)).map (Value.int .u8)) (λj v hj=>by
     rw[ZB];have hjl:j<l.length:=by
      rcases yj j l.length with h|h
      ·exact h
      ·simp [wo h]at hj
     have hv':v= .int .u8 l[j].toNat:=by simpa [hjl]using hj.symm
     have:=hi.frz _ _ _ (hF j 0 (by omega) (by omega));rw[hval j hjl]at this;rw[hv',<-this];simp)
    simpa [hlen]using this
   rw[run_bytesToString W _ len cap _ hld,QBP];congr 2
 obtain⟨ad,len,cap,rfl,hrun⟩:=main;exact⟨_,by simp only[execOp,hop,ha,zp,run_convert_bytes_string W s t e ad len cap hs.und he.und ht.und,hrun,zg,zq],.d _ _ (.st _)⟩
theorem QBQ{e:Nat}{l:List UInt8}(hti:QU P ti)(hop:o.op= .convert s t x)(hs:ti s=some sty)(hsk:sty.kd= .string)(ht:ti t=some ty)(hk:ty.kd= .slice e)(he:ti e=some ety)(hek:ety.kd= .int .u8)
  (hx:r x=some (.d (.st l))) (hmem:∀n ob,look n mem=some ob->n<nx/\ob.lt nx=true):ZH P mem nx r o (.d (.fs 1 (QD l))):=by
 obtain⟨u,i,hs⟩:=QE (hti _ _ hs);obtain⟨u',i',ht⟩:=QE (hti _ _ ht);obtain⟨u'',i'',he⟩:=QE (hti _ _ he);obtain rfl:=Z3 hs hsk;obtain rfl:=Q3 ht hk;obtain rfl:=QAP he hek;refine⟨rfl,λκ g a w hi ho next Q hn=>?_⟩;have h1:=Jv (ho x (by simp[hop,Op.operands]) _ hx);have hrun:=run_bytes_of_string (P:=P) w s t e ⟨l.toArray⟩ hs.und ht.und he.und;have hsz:(⟨l.toArray⟩:ByteArray).size=l.length:=by simp[ByteArray.size]
 generalize hcap:grownCap w (⟨l.toArray⟩:ByteArray).size 0 e=cap at hrun;have hle:l.length<=cap:=by
  rw[<-hcap,<-hsz];exact ji _ _
 have hrow:∀j (h:j<l.length),(bytesRow ⟨l.toArray⟩ cap).getD j undef= .int .u8 l[j].toNat:=λj hj=>by
  have:j<(bytesRow ⟨l.toArray⟩ cap).size:=by simp[bytesRow];omega
  rw[Array.getD,dif_pos this];simp[bytesRow,Array.getElem_append,hj]
 obtain⟨g',he',hi',hF⟩:=hi.newFrozen (w':=w.drew.alloc (.cells (bytesRow ⟨l.toArray⟩ cap) e ((bytesRow ⟨l.toArray⟩ cap).size,(bytesRow ⟨l.toArray⟩ cap).size+1))) hmem rfl rfl rfl rfl l.length (by simp[bytesRow]);have hr2:(execOp a.eval o).run P w= .ok (.value (.slice (some ⟨w.heap.size,0,none⟩) (⟨l.toArray⟩:ByteArray).size cap)) (w.drew.alloc (.cells (bytesRow ⟨l.toArray⟩ cap) e ((bytesRow ⟨l.toArray⟩ cap).size,(bytesRow ⟨l.toArray⟩ cap).size+1))):=by
  simp only[execOp,hop,h1,zp,hrun,zg,zq]
 refine Qc hr2 (hn g' _ _ he' hi' (.d _ _ ?_));rw[hsz];refine .fs _ _ _ _ _ _ (λi _=> .int .u8 (l.getD i 0).toNat) (by simp[QD]) hle (λj hj=>by simp[QD]) (λi j hi hj=>?_) λi hi j hj=>?_
 ·rw [show 0+i*1+j=i by omega,hF i hi,hrow i hi];simp[List.getD,hi]
 ·have hi':i<l.length:=by simpa [QD]using hi
  simp only[QD,z1,yq,xv]at hj⊢;obtain rfl:j=0:=by omega
  simp only[wp,List.getD,zj hi',kp];exact .it _ _
theorem QGj{vs:List AV}(hop:o.op= .extract x i)(hx:r x=some (.tup vs))(hl:(AV.tup vs).lt nx=true)(hv:vs[i]? =some v):ZH P mem nx r o v:=by
 have hlt:i<vs.length:=by
  rcases yj i vs.length with h|h
  ·exact h
  ·rw [wo h]at hv;cases hv
 have hv':vs[i]=v:=by rw[zj hlt]at hv;exact za hv
 refine .of_run ?_ λκ g A W hi ho=>?_
 ·simp only[AV.lt,ze]at hl;have:=hl v (by rw[<-hv'];exact zm _);cases v<;>first|exact this|cases this
 ·have h1:=ho x (by simp[hop,Op.operands]) _ hx;generalize ha:A.eval x=q at h1;cases h1 with|tup _ us e1 e2=>?_
  refine⟨us.getD i undef,?_,by rw[<-hv'];exact e2 i hlt⟩;have:us[i]? =some (us.getD i undef):=by simp[Array.getD,show i<us.size by omega]
  simp only[execOp,hop,ha,Instr.extract,this,zp,zq,zg]
end
def LR(F:Nat->Nat->Option Value)(cs:List D)(vs:Array Value):Prop:=cs.length=vs.size/\∀j (h:j<cs.length),DR F cs[j] (vs.getD j undef)
def LX{α:Type}(R:α->Value->Prop)(cs:List α)(vs:Array Value):Prop:=cs.length=vs.size/\∀j (h:j<cs.length),R cs[j] (vs.getD j undef)
theorem QFg:∀(xs:List Value) (k off:Nat) (cells:Array Value),((xs.zipIdx k).foldl (λcs (c,j)=>cs.setIfInBounds (off+j) c) cells).size=cells.size/\
  (off+k+xs.length<=cells.size->∀i,((xs.zipIdx k).foldl (λcs (c,j)=>cs.setIfInBounds (off+j) c) cells).getD i undef=if off+k<=i/\i<off+k+xs.length then xs.getD (i-(off+k)) undef else cells.getD i undef)
 |[],k,off,cells=>by
  refine⟨rfl,λ_ i=>?_⟩;rw[if_neg (by simp only[xv];omega)];rfl
 |x::xs,k,off,cells=>by
  have ih:=QFg xs (k+1) off (cells.setIfInBounds (off+k) x);simp only[List.zipIdx_cons,List.foldl_cons];refine⟨ih.1.trans (by simp),λh i=>?_⟩;simp only[yq]at h;rw[ih.2 (by simp;omega)];by_cases h1:off+(k+1)<=i/\i<off+(k+1)+xs.length
  ·rw [if_pos h1,if_pos (by simp;omega)];rw[show i-(off+k)=i-(off+(k+1))+1 by omega];rfl
  ·rw [if_neg h1];by_cases h2:i=off+k
   ·subst h2;rw[if_pos (by simp)];simp[Array.getD,show off+k<cells.size by omega]
   ·rw [if_neg (by simp;omega)];simp only[Array.getD,Wj];by_cases h3:i<cells.size
    ·simp [h3,qt,show¬off+k=i by omega]
    ·simp [h3]
theorem QB1{α:Type}{R:α->Value->Prop}{place:Nat->Option (Nat×Nat)}:∀(ps:List (Nat×Nat×List α)) (vs:List (Nat×Value)) (z z':List α) (cells:Array Value),LX R z cells->YM place z ps=some z'->vs.length=ps.length->
  (∀j (h:j<ps.length) (h':j<vs.length),vs[j].1=ps[j].1/\vs[j].2.cells.size=ps[j].2.1/\ps[j].2.2.length=ps[j].2.1/\LX R ps[j].2.2 vs[j].2.cells)->(∀i o s,place i=some (o,s)->o+s<=cells.size)->
  ∃cells',Instr.fill place cells vs=some cells'/\LX R z' cells'/\cells'.size=cells.size
 |[],vs,z,z',cells,hz,h,hl,_,_=>by
  cases vs with
  |nil=>obtain rfl:=za h;exact⟨cells,rfl,hz,rfl⟩
  |cons=>simp at hl
 |(i,k,l)::ps,[],z,z',cells,hz,h,hl,_,_=>by simp at hl
 |(i,k,l)::ps,(i',v)::vs,z,z',cells,hz,h,hl,hp,hpl=>by
  have h0:=hp 0 (by simp) (by simp);simp only[wp]at h0;obtain⟨rfl,e2,e3,e4⟩:=h0;simp only[YM]at h;split at h
  case h_2=>cases h
  rename_i off size hpi;cases hk:Nat.beq k size with
  |false=>rw[hk]at h;cases h
  |true=>
   rw[hk]at h;simp only[cond_true]at h;obtain rfl:=zh hk;have hb:=hpl _ _ _ hpi;have hf:=QFg v.cells.toList 0 off cells;have hfold:v.cells.zipIdx.foldl (λcs (c,j)=>cs.setIfInBounds (off+j) c) cells=(v.cells.toList.zipIdx 0).foldl (λcs (c,j)=>cs.setIfInBounds (off+j) c) cells:=by
    rw[<-Array.foldl_toList,Array.toList_zipIdx]
   have hsz:v.cells.toList.length=k:=by simpa using e2
   have hLR:LX R (z.take off++l++z.drop (off+k)) (v.cells.zipIdx.foldl (λcs (c,j)=>cs.setIfInBounds (off+j) c) cells):=by
    rw[hfold];have hzl:=hz.1;refine⟨by rw[hf.1];simp[e3];omega,λj hj=>?_⟩;rw[hf.2 (by omega)];simp only[zu,zy,ym]at hj;by_cases h1:j<off
    ·rw [if_neg (by omega)];have:(z.take off++l++z.drop (off+k))[j]'(by simp;omega)=z[j]'(by omega):=by
      rw[zx (by simp;omega),zx (by simp;omega),xl]
     rw[this];exact hz.2 j (by omega)
    ·by_cases h2:j<off+k
     ·rw [if_pos (by omega)];have:(z.take off++l++z.drop (off+k))[j]'(by simp;omega)=l[j-off]'(by omega):=by
       rw[zx (by simp;omega),yb (by simp;omega)];congr 1;simp;omega
      rw[this];have:=e4.2 (j-off) (by omega);rw[show j-(off+0)=j-off by omega];simpa [Array.getD,List.getD,e2,show j-off<k by omega]using this
     ·rw [if_neg (by omega)];have:(z.take off++l++z.drop (off+k))[j]'(by simp;omega)=z[j]'(by omega):=by
       rw[yb (by simp;omega),xm];congr 1;simp;omega
      rw[this];exact hz.2 j (by omega)
   obtain⟨cells',r1,r2,r3⟩:=QB1 ps vs _ z' _ hLR h (by simpa using hl) (λj h h'=>hp (j+1) (by simpa using h) (by simpa using h')) (λi o s h=>by rw[hfold,hf.1];exact hpl _ _ _ h);refine⟨cells',?_,r2,by rw[r3,hfold,hf.1]⟩;simp only[Instr.fill,hpi];rw[if_neg (by rw[e2];simp;omega)];exact r1
theorem QFh{v:Value}(h:v.oneCell'=true):v.cells= #[v]:=by
 cases v<;>first|rfl|cases h
theorem QL0{l:List D}(h:QJZ v=some (k,l))(hu:AVR g v u):u.cells.size=k/\l.length=k/\LR g.F l u.cells:=by
 have one:∀ {x:D},DR g.F x u->u.cells.size=1/\([x]:List D).length=1/\LR g.F [x] u.cells:=fun{x} hx=>by
  rw[QFh hx.one];exact⟨rfl,rfl,rfl,λj hj=>by
   have hj0:j=0:=by simpa using hj
   subst hj0;exact hx⟩
 cases v<;>simp only[QJZ]at h<;>first|(cases h;done)|skip
 ·simp only[yo,xo]at h;obtain⟨rfl,rfl⟩:=h;cases hu with|d _ _ hx=>exact one hx
 ·simp only[yo,xo]at h;obtain⟨rfl,rfl⟩:=h;cases hu with|dg _ _ vs h1 h2 h3=>exact⟨h1,h2,h2.trans h1.symm,h3⟩
 ·rename_i k' cs;split at h
  ·rename_i l' hl;simp only[yo,xo]at h;obtain⟨rfl,rfl⟩:=h;cases hu with
   |ag _ _ vs h1 h2 h3 h4=>
    obtain⟨i1,i2⟩:=QAh (g:=g) hl;exact⟨h1,i1.trans h2,i1.trans (h2.trans h1.symm),λj hj=>i2 (λj=>vs.getD j undef) h4 j hj⟩
  ·cases h
 ·simp only[yo,xo]at h;obtain⟨rfl,rfl⟩:=h;refine one ?_;cases hu with
  |ts0=>assumption
  |ts=>assumption
 ·simp only[yo,xo]at h;obtain⟨rfl,rfl⟩:=h;cases hu;exact one (by assumption)
 ·simp only[yo,xo]at h;obtain⟨rfl,rfl⟩:=h;cases hu;exact one (.fs0 _ _ _)
theorem QAl{g:Gh}{a:Act}{r:Operand->Option AV}:∀ {parts:List (Nat×Operand)} {ps:List (Nat×Nat×List D)},Yy r parts=some ps->(∀p∈parts,∀v,r p.2=some v->AVR g v (a.eval p.2))->
  (parts.map λp=>(p.1,a.eval p.2)).length=ps.length/\∀j (h:j<ps.length) (h':j<(parts.map λp=>(p.1,a.eval p.2)).length),(parts.map λp=>(p.1,a.eval p.2))[j].1=ps[j].1/\(parts.map λp=>(p.1,a.eval p.2))[j].2.cells.size=ps[j].2.1/\ps[j].2.2.length=ps[j].2.1/\LR g.F ps[j].2.2 (parts.map λp=>(p.1,a.eval p.2))[j].2.cells
 |[],ps,h,_=>by obtain rfl:=za h;exact⟨rfl,λj h=>by cases h⟩
 |(i,x)::t,ps,h,ho=>by
  simp only[Yy]at h;split at h
  ·rename_i k l rest h1 h2;obtain rfl:=za h;obtain⟨i1,i2⟩:=QAl (g:=g) (a:=a) h2 (λp hp=>ho p (zk _ hp));cases hx:r x with
   |none=>rw[hx]at h1;cases h1
   |some v=>
    rw[hx]at h1;have hc:=QL0 (g:=g) (by simpa using h1) (ho (i,x) zo v hx);refine⟨by simpa using i1,λj h h'=>?_⟩;cases j with
    |zero=>exact⟨rfl,hc.1,hc.2.1,hc.2.2⟩
    |succ j=>exact i2 j (by simpa using h) (by simpa using h')
  ·cases h
theorem Zl{z:Option Value}{h:List Nat}(h0:0<(QFd z h).length):∃v,z=some v/\LR g.F (QFd z h) v.cells/\LX (AVR g) ((QFd z h).map toA) v.cells:=by
 cases z with
 |none=>cases h0
 |some v=>
  simp only[QFd]at h0⊢;cases ha:v.cells.toList.all Value.oneCell' with
  |false=>rw[ha]at h0;cases h0
  |true=>
   simp only[cond_true];have key:∀j (hj:j<v.cells.size),(v.cells.getD j undef).oneCell'=true/\v.cells.getD j undef=v.cells.toList[j]'(by simpa using hj):=λj hj=>by
    have e:v.cells.getD j undef=v.cells[j]:=by simp[Array.getD,hj]
    rw[e];exact⟨ze.1 ha _ (by simp),by simp⟩
   refine⟨v,rfl,⟨by simp[Yo],λj hj=>?_⟩,⟨by simp[Yo],λj hj=>?_⟩⟩
   ·have hj':j<v.cells.size:=by simpa [Yo]using hj
    obtain⟨sz,e⟩:=QJX v.cells.toList h j hj (by simpa using hj');rw[e,(key j hj').2];exact QH7 g.F sz _ ((key j hj').2▸(key j hj').1)
   ·have hj':j<v.cells.size:=by simpa [Yo]using hj
    simp only[z1];obtain⟨sz,e⟩:=QJX v.cells.toList h j (by simpa [Yo]using hj') (by simpa using hj');rw[e,(key j hj').2];exact QN2 g sz _ ((key j hj').2▸(key j hj').1)
theorem QSA(h:AVR g v u)(hs:v.sc=true):u.cells= #[u]:=QFh (h.one hs)
theorem Ji(h:XM v=some (k,l))(hu:AVR g v u)(hl:v.lt m=true):
  u.cells.size=k/\l.length=k/\(∀j (h:j<l.length),l[j].sc=true)/\(∀x∈l,x.lt1 m=true)/\(∀j (h:j<l.length),AVR g l[j] (u.cells.getD j undef)):=by
 have one:v.sc=true->k=1->l=[v]->v.lt1 m=true->u.cells.size=k/\l.length=k/\(∀j (h:j<l.length),l[j].sc=true)/\(∀x∈l,x.lt1 m=true)/\(∀j (h:j<l.length),AVR g l[j] (u.cells.getD j undef)):=by
  rintro hs rfl rfl hl1;rw[QSA hu hs];refine⟨rfl,rfl,λj hj=>?_,λx hx=>?_,λj hj=>?_⟩
  ·obtain rfl:j=0:=by simp at hj;exact hj
   exact hs
  ·simp only[yr]at hx;subst hx;exact hl1
  ·obtain rfl:j=0:=by simp at hj;exact hj
   exact hu
 cases v with
 |dg k' cs=>
  simp only[XM,yo,xo]at h;obtain⟨rfl,rfl⟩:=h;cases hu with
  |dg _ _ vs h1 h2 h3=>
   refine⟨h1,by simpa using h2,λj hj=>by simp[AV.sc],λx hx=>?_,λj hj=>?_⟩
   ·obtain ⟨y,_,rfl⟩:=yf.1 hx;rfl
   ·simp only[zb]at hj;simp only[z1];exact .d _ _ (h3 j hj)
 |ag k' cs=>
  simp only[XM,yo,xo]at h;obtain⟨rfl,rfl⟩:=h;simp only[AV.lt,AV.lt2,ze]at hl;cases hu with
  |ag _ _ vs h1 h2 h3 h4=>exact⟨h1,h2,h3,hl,h4⟩
 |tup vs=>cases h
 |junk=>cases h
 |_=>
  simp only[XM,yo,xo]at h;exact one rfl h.1.symm h.2.symm hl
theorem QCZ{g:Gh}{a:Act}{r:Operand->Option AV}{m:Nat}:∀ {parts:List (Nat×Operand)} {ps:List (Nat×Nat×List AV)},QBL r parts=some ps->(∀p∈parts,∀v,r p.2=some v->AVR g v (a.eval p.2)/\v.lt m=true)->
  (parts.map λp=>(p.1,a.eval p.2)).length=ps.length/\(∀p∈ps,(∀x∈p.2.2,x.sc=true/\x.lt1 m=true))/\∀j (h:j<ps.length) (h':j<(parts.map λp=>(p.1,a.eval p.2)).length),(parts.map λp=>(p.1,a.eval p.2))[j].1=ps[j].1/\(parts.map λp=>(p.1,a.eval p.2))[j].2.cells.size=ps[j].2.1/\ps[j].2.2.length=ps[j].2.1/\LX (AVR g) ps[j].2.2 (parts.map λp=>(p.1,a.eval p.2))[j].2.cells
 |[],ps,h,_=>by obtain rfl:=za h;exact⟨rfl,(λp hp=>by cases hp),λj h=>by cases h⟩
 |(i,x)::t,ps,h,ho=>by
  simp only[QBL]at h;split at h
  ·rename_i k l rest h1 h2;obtain rfl:=za h;obtain⟨i1,i2,i3⟩:=QCZ (g:=g) (a:=a) (m:=m) h2 (λp hp=>ho p (zk _ hp));cases hx:r x with
   |none=>rw[hx]at h1;cases h1
   |some v=>
    rw[hx]at h1;obtain⟨o1,o2⟩:=ho (i,x) zo v hx;obtain⟨q1,q2,q3,q4,q5⟩:=Ji (g:=g) (m:=m) (by simpa using h1) o1 o2;refine⟨by simpa using i1,λp hp=>?_,λj h h'=>?_⟩
    ·rcases zi.1 hp with rfl|hp
     ·intro y hy;obtain⟨j,hj,rfl⟩:=yy.1 hy;exact⟨q3 j hj,q4 _ hy⟩
     ·exact i2 p hp
    ·cases j with
     |zero=>exact⟨rfl,q1,q2,⟨q2.trans q1.symm,q5⟩⟩
     |succ j=>exact i3 j (by simpa using h) (by simpa using h')
  ·cases h
theorem QL1(h:XM v=some (k,l))(hl:v.lt m=true):∀x∈l,x.lt1 m=true:=by
 cases v with
 |dg k' cs=>
  simp only[XM,yo,xo]at h;obtain⟨rfl,rfl⟩:=h;intro x hx;obtain⟨y,_,rfl⟩:=yf.1 hx;rfl
 |ag k' cs=>
  simp only[XM,yo,xo]at h;obtain⟨rfl,rfl⟩:=h;simpa only[AV.lt,AV.lt2,ze]using hl
 |tup vs=>cases h
 |junk=>cases h
 |_=>
  simp only[XM,yo,xo]at h;obtain⟨rfl,rfl⟩:=h;intro x hx;simp only[yr]at hx;subst hx;exact hl
theorem QFi{r:Operand->Option AV}{m:Nat}:∀ {parts:List (Nat×Operand)} {ps:List (Nat×Nat×List AV)},QBL r parts=some ps->(∀x v,r x=some v->v.lt m=true)->∀p∈ps,∀x∈p.2.2,x.lt1 m=true
 |[],ps,h,_=>by obtain rfl:=za h;exact λp hp=>by cases hp
 |(i,x)::t,ps,h,ho=>by
  simp only[QBL]at h;split at h
  ·rename_i k l rest h1 h2;obtain rfl:=za h;intro p hp;rcases zi.1 hp with rfl|hp
   ·cases hx:r x with
    |none=>rw[hx]at h1;cases h1
    |some v=>rw[hx]at h1;exact QL1 (by simpa using h1) (ho x v hx)
   ·exact QFi h2 ho p hp
  ·cases h
theorem QCa{α:Type}{Q:α->Prop}{place:Nat->Option (Nat×Nat)}:∀ {ps:List (Nat×Nat×List α)} {z z':List α},YM place z ps=some z'->(∀x∈z,Q x)->(∀p∈ps,∀x∈p.2.2,Q x)->∀x∈z',Q x
 |[],z,z',h,hz,_=>by obtain rfl:=za h;exact hz
 |(i,k,l)::ps,z,z',h,hz,hp=>by
  simp only[YM]at h;split at h
  case h_2=>cases h
  rename_i off size hpi;cases hk:Nat.beq k size with
  |false=>rw[hk]at h;cases h
  |true=>
   rw[hk]at h;refine QCa h (λx hx=>?_) λp hp'=>hp p (zk _ hp');rcases yd.1 hx with hx|hx
   ·rcases yd.1 hx with hx|hx
    ·exact hz x (xg hx)
    ·exact hp _ zo x hx
   ·exact hz x (xx hx)
variable {parts:Array (Nat×Operand)}
variable {ps:List (Nat×Nat×List D)}
section
variable {P:Program} {ti:Nat->Option Ty} {mem:List (Nat×Ob)} {nx:Nat} {r:Operand->Option AV} {o:Oper} {K:AV->Prop}
theorem QB2{l:List D}(hti:QU P ti)(hop:o.op= .build t parts)(ht:ti t=some ty)(hk:ty.kd= .struct fs)(hp:Yy r parts.toList=some ps)
  (hz:ty.zero.length=ty.size) (h0:0<ty.size) (hpl:ty.pl.all (λp=>Nat.ble (p.1+p.2) ty.size)=true) (hf:YM (λi=>ty.pl[i]?) ty.zero ps=some l):ZH P mem nx r o (.dg ty.size l):=by
 obtain⟨u,i,ht⟩:=QE (hti _ _ ht);obtain⟨fields,rfl,hfl⟩:=Jg ht hk;refine .of_run rfl λκ g a w hi ho=>?_;obtain⟨p1,p2⟩:=QAl (g:=g) (a:=a) hp (λp hp v hv=>ho p.2 (by simp only[hop,Op.operands,yf];exact⟨p,hp,rfl⟩) v hv);obtain⟨zv,hzv,hLR,hLA⟩:=Zl (g:=g) (z:=i.zero) (h:=slH P 6 t) (by rw[ht.zero];omega);rw[ht.zero]at hLR hLA;have hcs:zv.cells.size=ty.size:=by rw[<-hLR.1,hz]
 obtain⟨cells,q1,q2,q3⟩:=QB1 (R:=DR g.F) ps (parts.toList.map λp=>(p.1,a.eval p.2)) ty.zero l zv.cells hLR hf p1 p2 (λi o s h=>by
  have h':ty.pl[i]? =some (o,s):=h;have hm:(o,s)∈ty.pl:=ya h';have:=ze.1 hpl _ hm;rw[hcs];simpa using this)
 have hb:P.built t (parts.map fun(i,x)=>(i,a.eval x)).toList=some cells:=by
  have hpl':fields.toList.mapM (λf=>(P.info? f.type).map λi=>(f.offset,i.size))=some ty.pl:=ht.pl;simp only[Program.built,ht.info,ht.und,hzv,hpl',Wl];rw[<-q1];congr 1;funext i;simp
 refine⟨.agg cells,by simp only[execOp,hop,zp,run_build w t _ cells hb,zg,zq],.dg _ _ _ (by omega) (by rw[q2.1];omega) q2.2⟩
theorem Y1{ps:List (Nat×Nat×List AV)}(hti:QU P ti)(hop:o.op= .build t parts)(ht:ti t=some ty)(hk:ty.kd= .struct fs)(hp:QBL r parts.toList=some ps)(hlt:∀x v,r x=some v->v.lt nx=true)
  (hz:ty.zero.length=ty.size) (h0:0<ty.size) (hpl:ty.pl.all (λp=>Nat.ble (p.1+p.2) ty.size)=true) (hf:YM (λi=>ty.pl[i]?) (ty.zero.map toA) ps=some l):ZH P mem nx r o (.ag ty.size l):=by
 obtain⟨u,i,ht⟩:=QE (hti _ _ ht);obtain⟨fields,rfl,hfl⟩:=Jg ht hk;have hall:∀(g:Gh) (a:Act),(∀p∈parts.toList,∀v,r p.2=some v->AVR g v (a.eval p.2)/\v.lt nx=true)->∀x∈l,x.sc=true/\x.lt1 nx=true:=λg a h=>by
  obtain⟨p1,p2,p3⟩:=QCZ (g:=g) (a:=a) (m:=nx) hp h;refine QCa (Q:=λx=>x.sc=true/\x.lt1 nx=true) hf (λx hx=>?_) p2;obtain⟨y,_,rfl⟩:=yf.1 hx;exact⟨QEP _,QAM _ _⟩
 have hlt':(AV.ag ty.size l).lt nx=true:=by
  simp only[AV.lt,AV.lt2,ze];refine QCa (Q:=λx=>x.lt1 nx=true) hf (λx hx=>?_) (QFi hp hlt);obtain⟨y,_,rfl⟩:=yf.1 hx;exact QAM _ _
 refine .of_run hlt' λκ g a w hi ho=>?_;have hops:∀p∈parts.toList,∀v,r p.2=some v->AVR g v (a.eval p.2)/\v.lt nx=true:=λp hp v hv=>⟨ho p.2 (by simp only[hop,Op.operands,yf];exact⟨p,hp,rfl⟩) v hv,hlt _ _ hv⟩;obtain⟨p1,p2,p3⟩:=QCZ (g:=g) (a:=a) (m:=nx) hp hops;obtain⟨zv,hzv,hLR,hLA⟩:=Zl (g:=g) (z:=i.zero) (h:=slH P 6 t) (by rw[ht.zero];omega);rw[ht.zero]at hLR hLA;have hcs:zv.cells.size=ty.size:=by rw[<-hLR.1,hz]
 obtain⟨cells,q1,q2,q3⟩:=QB1 (R:=AVR g) ps (parts.toList.map λp=>(p.1,a.eval p.2)) _ l zv.cells hLA hf p1 p3 (λi o s h=>by
  have h':ty.pl[i]? =some (o,s):=h;have hm:(o,s)∈ty.pl:=ya h';have:=ze.1 hpl _ hm;rw[hcs];simpa using this)
 have hb:P.built t (parts.map fun(i,x)=>(i,a.eval x)).toList=some cells:=by
  have hpl':fields.toList.mapM (λf=>(P.info? f.type).map λi=>(f.offset,i.size))=some ty.pl:=ht.pl;simp only[Program.built,ht.info,ht.und,hzv,hpl',Wl];rw[<-q1];congr 1;funext i;simp
 exact⟨.agg cells,by simp only[execOp,hop,zp,run_build w t _ cells hb,zg,zq],.ag _ _ _ (by omega) (by rw[q2.1];omega) (λj hj=>(hall g a hops _ (zm hj)).1) q2.2⟩
theorem QEY{e:Nat}{l:List D}(hti:QU P ti)(hop:o.op= .build t parts)(ht:ti t=some ty)(hk:ty.kd= .arr n e)(he:ti e=some ety)(hp:Yy r parts.toList=some ps)
  (hz:ty.zero.length=ty.size) (h0:0<ty.size) (hpl:ps.all (λp=>Nat.ble (p.1*ety.size+ety.size) ty.size)=true) (hf:YM (λi=>bif Nat.ble (i*ety.size+ety.size) ty.size then some (i*ety.size,ety.size)else none) ty.zero ps=some l):ZH P mem nx r o (.dg ty.size l):=by
 obtain⟨u,i,ht⟩:=QE (hti _ _ ht);obtain⟨ue,ie,het⟩:=QE (hti _ _ he);obtain rfl:=QAO ht hk;refine .of_run rfl λκ g a w hi ho=>?_;obtain⟨p1,p2⟩:=QAl (g:=g) (a:=a) hp (λp hp v hv=>ho p.2 (by simp only[hop,Op.operands,yf];exact⟨p,hp,rfl⟩) v hv);obtain⟨zv,hzv,hLR,hLA⟩:=Zl (g:=g) (z:=i.zero) (h:=slH P 6 t) (by rw[ht.zero];omega);rw[ht.zero]at hLR hLA;have hcs:zv.cells.size=ty.size:=by rw[<-hLR.1,hz]
 obtain⟨cells,q1,q2,q3⟩:=QB1 (R:=DR g.F) ps (parts.toList.map λp=>(p.1,a.eval p.2)) ty.zero l zv.cells hLR hf p1 p2 (λi o s h=>by
  cases hb:Nat.ble (i*ety.size+ety.size) ty.size with
  |false=>simp only[hb,cond_false]at h;cases h
  |true=>
   simp only[hb,cond_true,yo,xo]at h;obtain⟨rfl,rfl⟩:=h;rw[hcs];simpa using hb)
 have hfill:∀(vs:List (Nat×Value)) (c:Array Value) (c':Array Value),Instr.fill (λi=>bif Nat.ble (i*ety.size+ety.size) ty.size then some (i*ety.size,ety.size)else none) c vs=some c'->Instr.fill (λi=>some (i*ety.size,ety.size)) c vs=some c':=by
  intro vs;induction vs with
  |nil=>exact λ_ _ h=>h
  |cons p vs ih=>
   intro c c' h;obtain⟨i,v⟩:=p;simp only[Instr.fill]at h⊢;cases hb:Nat.ble (i*ety.size+ety.size) ty.size with
   |false=>simp only[hb,cond_false]at h;cases h
   |true=>
    simp only[hb,cond_true]at h;split at h
    ·cases h
    ·rename_i hc;rw[if_neg hc];exact ih _ _ h
 have hb:P.built t (parts.map fun(i,x)=>(i,a.eval x)).toList=some cells:=by
  simp only[Program.built,ht.info,ht.und,hzv,het.info,Wl,het.size];exact hfill _ _ _ q1
 refine⟨.agg cells,by simp only[execOp,hop,zp,run_build w t _ cells hb,zg,zq],.dg _ _ _ (by omega) (by rw[q2.1];omega) q2.2⟩
end
theorem Xp(n:Nat)(z:List D):(Zx n z).length=n*z.length:=by
 induction n with
 |zero=>simp[Zx]
 |succ n ih=>simp[Zx,ih,z2];omega
theorem QCb(z:List D):∀(n j:Nat) (h:j<(Zx n z).length),∃h':j % z.length<z.length,(Zx n z)[j]=z[j % z.length]
 |0,j,h=>by simp[Zx]at h
 |n+1,j,h=>by
  have hz:0<z.length:=by
   rcases ju z.length with h0|h0
   ·simp [Xp,h0]at h
   ·exact h0
  refine⟨u6 _ hz,?_⟩;simp only[Zx];by_cases hj:j<z.length
  ·rw [zx hj];congr 1;exact(Wm hj).symm
  ·rw [yb (by omega)];obtain⟨h1,h2⟩:=QCb z n (j-z.length) (by simp only[Zx,zu]at h;omega);rw[h2];congr 1;rw[<-Nat.mod_eq_sub_mod (by omega)]
theorem ZN(sz:Nat):∀(n:Nat) (l:List D),(XP sz n l).length=n
 |0,_=>rfl
 |n+1,l=>by simp[XP,ZN sz n]
theorem Yp(sz:Nat):∀(n:Nat) (l:List D) (i:Nat) (h:i<(XP sz n l).length),(XP sz n l)[i]=(l.drop (i*sz)).take sz
 |0,_,i,h=>by simp[XP]at h
 |n+1,l,0,h=>by simp[XP]
 |n+1,l,i+1,h=>by
  simp only[XP,uh];rw[Yp sz n _ i (by simpa [XP]using h),List.drop_drop];congr 2;rw[z2];omega
section
variable {P:Program} {ti:Nat->Option Ty} {mem:List (Nat×Ob)} {nx:Nat} {r:Operand->Option AV} {o:Oper} {K:AV->Prop}
theorem DR.chunks{b:Nat}{l:List D}(hl:LR F l arr)(hn:l.length=n*sz)(hF:∀o,o<n*sz->F b o=some (arr.getD o undef))(cap:Nat)(hc:n<=cap):
  DR F (.fs sz (XP sz n l)) (.slice (some ⟨b,0,none⟩) n cap):=by
 have bnd:∀i j,i<n->j<sz->i*sz+j<n*sz:=λi j hi hj=>by
  have:(i+1)*sz<=n*sz:=zw _ (by omega);rw[z2]at this;omega
 refine .fs _ _ _ _ _ _ (λi j=>arr.getD (i*sz+j) undef) (ZN sz n l) hc (λi hi=>?_) (λi j hi hj=>?_) λi hi j hj=>?_
 ·rw [Yp];rw[ZN]at hi;simp only[zy,ym,hn];have:(i+1)*sz<=n*sz:=zw _ (by omega);rw[z2]at this;omega
 ·rw [y5];exact hF _ (bnd i j hi hj)
 ·have hi':i<n:=by rwa [ZN]at hi
  have hj':j<sz:=by rw[Yp]at hj;simp at hj;omega
  have e:(XP sz n l)[i][j]=l[i*sz+j]'(by rw[hn];exact bnd i j hi' hj'):=by
   simp only[Yp,xl,xm]
  rw[e];exact hl.2 _ _
theorem QAS{e:Nat}{l:List D}(hti:QU P ti)(hop:o.op= .buildSlice t n parts)(ht:ti t=some ty)(hk:ty.kd= .slice e)(he:ti e=some ety)(hp:Yy r parts.toList=some ps)
  (hz:ety.zero.length=ety.size) (h0:0<ety.size) (hlim:n*ety.size<=16777216) (hpl:ps.all (λp=>Nat.blt p.1 n)=true) (hf:YM (λi=>bif Nat.blt i n then some (i*ety.size,ety.size)else none) (Zx n ety.zero) ps=some l)
 (hi:Inv κ g mem w) (ho:∀x∈o.op.operands.toList,∀v,r x=some v->AVR g v (a.eval x)):∃cells:Array Value,cells.size=n*ety.size/\LR g.F l cells/\(execOp a.eval o).run P w= .ok (.value (.slice (some ⟨w.heap.size,0,none⟩) n n)) (w.alloc (.cells cells e)):=by
 obtain⟨u,i,ht⟩:=QE (hti _ _ ht);obtain⟨ue,ie,het⟩:=QE (hti _ _ he);obtain rfl:=Q3 ht hk;obtain⟨p1,p2⟩:=QAl (g:=g) (a:=a) hp (λp hp v hv=>ho p.2 (by simp only[hop,Op.operands,yf];exact⟨p,hp,rfl⟩) v hv);obtain⟨zv,hzv,hLR,hLA⟩:=Zl (g:=g) (z:=ie.zero) (h:=slH P 6 e) (by rw[het.zero];omega);rw[het.zero]at hLR hLA;have hcs:zv.cells.size=ety.size:=by rw[<-hLR.1,hz]
 -- the row of Zx
 generalize hrow:(if n*ie.size=0 then(#[]:Array Value)else zv.cells)=zc;have hZ:LR g.F (Zx n ety.zero) ((Array.range (n*ety.size)).map (zc[· % zc.size]!)):=by
  refine⟨by simp[Xp,hz],λj hj=>?_⟩;have hlen:j<n*ety.size:=by simpa [Xp,hz]using hj
  have hzc:zc=zv.cells:=by
   rw[<-hrow,if_neg];rw[het.size];omega
  obtain⟨h1,h2⟩:=QCb ety.zero n j hj;rw[h2];have hm:j % ety.size<zv.cells.size:=by rw[hcs];exact u6 _ h0
  have:((Array.range (n*ety.size)).map (zc[· % zc.size]!)).getD j undef=zv.cells.getD (j % ety.size) undef:=by
   rw[hzc];have e1:∀(A:Array Value) (h:j<A.size),A.getD j undef=A[j]:=λA h=>by rw[Array.getD,dif_pos h];rfl
   rw[e1 _ (by simpa using hlen),Wc,qn,hcs,getElem!_pos zv.cells (j % ety.size) hm,Array.getD,dif_pos hm];rfl
  rw[this];have:=hLR.2 (j % ety.zero.length) h1;simpa only[hz]using this
 obtain⟨cells,q1,q2,q3⟩:=QB1 (R:=DR g.F) ps (parts.toList.map λp=>(p.1,a.eval p.2)) _ l _ hZ hf p1 p2 (λi o s h=>by
  cases hb:Nat.blt i n with
  |false=>simp only[hb,cond_false]at h;cases h
  |true=>
   simp only[hb,cond_true,yo,xo]at h;obtain⟨rfl,rfl⟩:=h;simp only[yc]at hb;have:(i+1)*ety.size<=n*ety.size:=zw _ (by omega);rw[z2]at this;simp;omega)
 have hfill:∀(vs:List (Nat×Value)) (c c':Array Value),Instr.fill (λi=>bif Nat.blt i n then some (i*ety.size,ety.size)else none) c vs=some c'->Instr.fill (λi=>some (i*ety.size,ety.size)) c vs=some c':=by
  intro vs;induction vs with
  |nil=>exact λ_ _ h=>h
  |cons p vs ih=>
   intro c c' h;obtain⟨i,v⟩:=p;simp only[Instr.fill]at h⊢;cases hb:Nat.blt i n with
   |false=>simp only[hb,cond_false]at h;cases h
   |true=>
    simp only[hb,cond_true]at h;split at h
    ·cases h
    ·rename_i hc;rw[if_neg hc];exact ih _ _ h
 have hsz:cells.size=n*ety.size:=by rw[q3];simp
 have hrun:(execOp a.eval o).run P w= .ok (.value (.slice (some ⟨w.heap.size,0,none⟩) n n)) (w.alloc (.cells cells e)):=by
  have hfl:=hfill _ _ _ q1;have hmap:(parts.map fun(i,x)=>(i,a.eval x)).toList=parts.toList.map λp=>(p.1,a.eval p.2):=by simp
  simp only[execOp,hop,Instr.buildSlice,zp,run_underlying ht.und,zg,QV het.info,het.size,ww];rw[if_neg (by omega)];rw[het.size]at hrow;by_cases hnz:n*ety.size=0
  ·rw [if_pos hnz]at hrow⊢;subst hrow;simp only[zq,zg,hmap,hfl,newRow,zp,run_newObj];rfl
  ·rw [if_neg hnz]at hrow⊢;subst hrow;simp only[zeroValue,zp,ZE het.info,zg,hzv,zq,hmap,hfl,newRow,run_newObj];rfl
 exact⟨cells,hsz,q2,hrun⟩
theorem QDL{e:Nat}{l:List D}(hti:QU P ti)(hop:o.op= .buildSlice t n parts)(ht:ti t=some ty)(hk:ty.kd= .slice e)(he:ti e=some ety)(hp:Yy r parts.toList=some ps)
  (hz:ety.zero.length=ety.size) (h0:0<ety.size) (hlim:n*ety.size<=16777216) (hpl:ps.all (λp=>Nat.blt p.1 n)=true) (hf:YM (λi=>bif Nat.blt i n then some (i*ety.size,ety.size)else none) (Zx n ety.zero) ps=some l)
  (hmem:∀n ob,look n mem=some ob->n<nx/\ob.lt nx=true):ZH P mem nx r o (.tg ety.size (XP ety.size n l)):=by
 refine⟨rfl,λκ g a w hi ho next Q hn=>?_⟩;obtain⟨cells,hsz,q2,hrun⟩:=QAS hti hop ht hk he hp hz h0 hlim hpl hf hi ho;obtain⟨g',he',hi',hF⟩:=hi.newFrozen (w':=w.alloc (.cells cells e)) hmem rfl rfl rfl rfl (n*ety.size) (by omega);refine Qc hrun (hn g' _ _ he' hi' (.tg _ _ _ _ (ZN _ _ _) ?_));exact DR.chunks (arr:=cells) ⟨q2.1,λj hj=>(q2.2 j hj).mono he'.F⟩ (by rw[q2.1];exact hsz) hF n (zt _)
theorem QQ{b:Builtin}{args:Array Operand}{ats:Array TypeId}(hop:o.op= .call ⟨.builtin b,args,ats⟩)(a:Act):execOp a.eval o=builtin b ats o.type (args.map fun| .const _=>true|_=>false) (args.map a.eval):=by
 simp only[execOp,hop,resolve,pure_bind,invoke];rfl
theorem QGk{ats:Array TypeId}{l:List UInt8}(hti:QU P ti)(hop:o.op= .call ⟨.builtin .len,#[x],ats⟩)(ht:ti t=some ty)(hk:ty.kd= .string)(h0:ats[0]? =some t)(hx:r x=some (.d (.st l))):ZH P mem nx r o (.d (.it .i64 l.length)):=by
 obtain⟨u,i,ht⟩:=QE (hti _ _ ht);obtain rfl:=Z3 ht hk;refine .of_run rfl λκ g a w hi ho=>⟨_,?_,.d _ _ (.it _ _)⟩;have h1:=Jv (ho x (by simp[hop,Op.operands,Call.operands]) _ hx);rw[QQ hop];have hsz:(⟨l.toArray⟩:ByteArray).size=l.length:=by simp[ByteArray.size]
 simp[builtin,Builtin.len_,h1,h0,run_underlying ht.und,goInt,hsz]
theorem QEZ{ats:Array TypeId}{e:Nat}(hti:QU P ti)(hop:o.op= .call ⟨.builtin .len,#[x],ats⟩)(ht:ti t=some ty)(hk:ty.kd= .slice e)(h0:ats[0]? =some t)(hx:r x=some v)(hv:Z5 v=some (sz,es)):ZH P mem nx r o (.d (.it .i64 es.length)):=by
 obtain⟨u,i,ht⟩:=QE (hti _ _ ht);obtain rfl:=Q3 ht hk;refine .of_run rfl λκ g a w hi ho=>⟨.int .i64 es.length,?_,.d _ _ (.it _ _)⟩;have h1:=XV hv (ho x (by simp[hop,Op.operands,Call.operands]) _ hx);have h2:∃ad cap,a.eval x= .slice ad es.length cap:=by
  generalize a.eval x=q at h1;cases h1 with
  |fs0=>exact⟨_,_,rfl⟩
  |fs _ _ b off len cap vs hl=>subst hl;exact⟨_,_,rfl⟩
 obtain⟨ad,cap,h2⟩:=h2;rw[QQ hop];simp[builtin,Builtin.len_,h2,h0,run_underlying ht.und,goInt]
theorem QGl{ats:Array TypeId}{e:Nat}(hti:QU P ti)(hop:o.op= .call ⟨.builtin .len,#[x],ats⟩)(ht:ti t=some ty)(hk:ty.kd= .arr n e)(h0:ats[0]? =some t):ZH P mem nx r o (.d (.it .i64 n)):=by
 obtain⟨u,i,ht⟩:=QE (hti _ _ ht);obtain rfl:=QAO ht hk;refine .of_run rfl λκ g a w hi ho=>⟨.int .i64 n,?_,.d _ _ (.it _ _)⟩;rw[QQ hop];simp[builtin,Builtin.len_,h0,run_underlying ht.und,goInt]
theorem QN7{ats:Array TypeId}{k l:IntKind}{a b:Int}(hop:o.op= .call ⟨.builtin .min,#[x,y],ats⟩)(hx:r x=some (.d (.it k a)))(hy:r y=some (.d (.it l b))):ZH P mem nx r o (.d (.it k (if b<a then b else a))):=by
 refine .of_run rfl λκ g A w hi ho=>⟨_,?_,.d _ _ (.it _ _)⟩;have h1:=ZI (ho x (by simp[hop,Op.operands,Call.operands]) _ hx);have h2:=ZI (ho y (by simp[hop,Op.operands,Call.operands]) _ hy);rw[QQ hop];simp[builtin,Builtin.min_,h1,h2,Builtin.min2]
theorem QN8{ats:Array TypeId}{k l:IntKind}{a b:Int}(hop:o.op= .call ⟨.builtin .max,#[x,y],ats⟩)(hx:r x=some (.d (.it k a)))(hy:r y=some (.d (.it l b))):ZH P mem nx r o (.d (.it k (if b>a then b else a))):=by
 refine .of_run rfl λκ g A w hi ho=>⟨_,?_,.d _ _ (.it _ _)⟩;have h1:=ZI (ho x (by simp[hop,Op.operands,Call.operands]) _ hx);have h2:=ZI (ho y (by simp[hop,Op.operands,Call.operands]) _ hy);rw[QQ hop];simp[builtin,Builtin.max_,h1,h2,Builtin.max2]
theorem QIA{g:Gh}{a:Act}:∀ {l:List Operand} {args:List AV},QC1 r l=some args->(∀x∈l,∀v,r x=some v->AVR g v (a.eval x))->args.length=l.length/\∀j (h:j<args.length) (h':j<l.length),AVR g args[j] (a.eval l[j])
 |[],args,h,_=>by obtain rfl:=za h;exact⟨rfl,λj h=>by cases h⟩
 |x::t,args,h,ho=>by
  simp only[QC1]at h;split at h
  ·rename_i v l h1 h2;obtain rfl:=za h;obtain⟨i1,i2⟩:=QIA (g:=g) (a:=a) h2 (λx hx=>ho x (zk _ hx));refine⟨by simp[i1],λj h h'=>?_⟩;cases j with
   |zero=>
    cases hx:r x with
    |none=>rw[hx]at h1;cases h1
    |some u=>rw[hx]at h1;exact Jf h1 (ho x zo u hx)
   |succ j=>exact i2 j (by simpa using h) (by simpa using h')
  ·cases h
theorem QFj{args:Array Operand}{ats:Array TypeId}(hop:o.op= .call ⟨.value (.func f),args,ats⟩)(ha:QC1 r args.toList=some l)(hf:FnC P f l v)(hmem:∀n ob,look n mem=some ob->n<nx/\ob.lt nx=true):ZH P mem nx r o v:=by
 refine⟨QAN hf.isP nx,λκ g a w hi ho next Q hn=>?_⟩;obtain⟨a1,a2⟩:=QIA (g:=g) (a:=a) ha (λx hx v hv=>ho x (by simp only[hop,Op.operands,Call.operands];simp[hx]) v hv);have hexec:(execOp a.eval o).run P w=(callFunc f (args.map a.eval)).run P w:=by
  simp only[execOp,hop,resolve,Act.eval,Deferred.ofValue,pure_bind,invoke];simp
 have fin:∀e w',(∃v' g1,e=Ending.returned v'/\AVR g1 v v'/\(∀b o v,g.F b o=some v->g1.F b o=some v)/\
   (∀b o v,g1.F b o=some v->g.F b o=some v\/w.heap.size<=b)/\(∀b o v,g1.F b o=some v->w'.cell? ⟨b,o,none⟩=some v)/\
   w.heap.size<=w'.heap.size/\(∀b,b<w.heap.size->w'.heap[b]? =w.heap[b]?)/\w'.os=w.os/\w'.tape=w.tape/\w'.output=w.output)->∃v',e= .returned v'/\next (a.put o.dst v') w':=by
  rintro e w' ⟨v',g1,rfl,q1,q2,q3,q4,q5,q6,q7,q8,q9⟩;refine⟨v',rfl,hn {g with F:=g1.F} v' w' ⟨q2,λ_ _=>rfl,λ_ _=>rfl,λ_ _=>rfl,λ_ _=>rfl⟩ ?_ ?_⟩
  ·exact hi.grow hmem ⟨q2,λ_ _=>rfl,λ_ _=>rfl,λ_ _=>rfl,λ_ _=>rfl⟩ q5 q6 q3 q4 q7 q8 q9
  ·exact Zw (g:=g1) (g':= {g with F:=g1.F}) (λ_ _ _ h=>h) hf.isP q1
 rcases hf.run g w (args.map a.eval) hi.frz (κ.gl.mono hi.f0) (by simp[a1]) (λj hj=>by
  have h':j<args.size:=by simpa using(a1▸hj:j<args.toList.length)
  have:=a2 j hj (by simpa using h');simpa [Array.getD,h']using this)with⟨hrun,hc⟩|⟨v',w',hrun,hc⟩
 ·exact YL (hexec.trans hrun) (hc.mono λe w' he=>fin e w' he)
 ·obtain ⟨v'',he,hn'⟩:=fin _ _ hc;cases he;exact Qc (hexec.trans hrun) hn'
theorem QB3{v:Option AV}(h:QN3 v K):∃u,v=some u/\K u:=by
 cases v with
 |none=>exact h.elim
 |some u=>exact⟨u,rfl,h⟩
theorem Qf(h:bif b then p else False):b=true/\p:=by
 cases b with
 |true=>exact⟨rfl,h⟩
 |false=>exact h.elim
theorem QIB(hti:QU P ti)(hlt:∀x v,r x=some v->v.lt nx=true)(hmem:∀n ob,look n mem=some ob->n<nx/\ob.lt nx=true)(h:QN4 P ti mem r o K):∃v,K v/\ZH P mem nx r o v:=by
 unfold QN4 at h;split at h
 ·rename_i x hop;obtain⟨v,hv,hK⟩:=QB3 h;exact⟨v,hK,QFe (.inl hop) hv (hlt _ _ hv)⟩
 ·rename_i x hop;obtain⟨v,hv,hK⟩:=QB3 h;exact⟨v,hK,QFe (.inr hop) hv (hlt _ _ hv)⟩
 ·rename_i c x y hop;split at h
  ·rename_i t hc;cases t with
   |true=>
    obtain⟨v,hv,hK⟩:=QB3 (h.t rfl);exact⟨v,hK,QFf hop hc (by simpa using hv) (hlt _ _ hv)⟩
   |false=>
    obtain⟨v,hv,hK⟩:=QB3 (h.f rfl);exact⟨v,hK,QFf hop hc (by simpa using hv) (hlt _ _ hv)⟩
  ·exact h.elim
 ·rename_i x hop;split at h
  ·rename_i n off hx;exact⟨_,h,QA7 hop hx (hlt _ _ hx) (.inl ⟨_,_,rfl⟩)⟩
  ·rename_i k cs hx;exact⟨_,h,QA7 hop hx (hlt _ _ hx) (.inr ⟨_,_,rfl⟩)⟩
  ·exact h.elim
 ·rename_i t x hop;split at h
  ·rename_i ty k cs ht hx;obtain⟨hb,hK⟩:=Qf h;replace hK:=AtA.bif hK;simp only[zf,yc]at hb;exact⟨_,hK,QGf hop (hti _ _ ht) hx (yg hb.1) hb.2⟩
  ·rename_i ty n off ht hx;split at h
   ·rename_i size c hm;obtain⟨hb,hK⟩:=Qf h;simp only[zf,yc]at hb;replace hK:K (ldA ty off c):=by
     cases hq:Nat.ble 16 size with
     |true=>rw[hq]at hK;exact hK.run
     |false=>rw[hq]at hK;exact hK
    refine⟨_,hK,QE3 hop (hti _ _ ht) hx hm (yg hb.1) hb.2 ?_⟩;have:=(hmem _ _ hm).2;simp only[Ob.lt,ze]at this;exact this
   ·exact h.elim
  ·exact h.elim
 ·rename_i t x f hop;split at h
  ·rename_i fs sz by' z cmp pl p ht hx;split at h
   ·rename_i fo fsz hf;obtain⟨hb,h⟩:=Qf h;simp only[yc]at hb;split at h
    ·rename_i n off;exact⟨_,h,Yz hti hop (hti _ _ ht) rfl hf hb hx (.inl ⟨_,_,rfl,rfl,by have:=hlt _ _ hx;simpa [AV.lt,AV.lt2,AV.lt1,AV.lt0]using this⟩)⟩
    ·rename_i k cs;obtain⟨hb',hK⟩:=Qf h;replace hK:=AtD.bif (K:=λl=>K (.d (.fp _ l))) hK;exact⟨_,hK,Yz hti hop (hti _ _ ht) rfl hf hb hx (.inr (.inl ⟨_,_,rfl,rfl,yg hb'⟩))⟩
    ·exact h.elim
   ·exact h.elim
  ·exact h.elim
 ·rename_i t x f hop;split at h
  ·rename_i fs sz by' z cmp pl p ht hx;split at h
   ·rename_i fo ft hf;split at h
    ·rename_i fty hft;split at h
     ·rename_i k cs;obtain⟨hb,hK⟩:=Qf h;replace hK:=AtA.bif hK;simp only[zf,yc]at hb;exact⟨_,hK,QGh hti hop (hti _ _ ht) rfl hf hft hx (yg hb.1) hb.2⟩
     ·rename_i k cs;obtain⟨hb,hK⟩:=Qf h;replace hK:=AtA.bif hK;simp only[zf,yc]at hb;exact⟨_,hK,QGi hti hop (hti _ _ ht) rfl hf hft hx (hlt _ _ hx) (yg hb.1) hb.2⟩
     ·exact h.elim
    ·exact h.elim
   ·exact h.elim
  ·exact h.elim
 ·rename_i t x i hop;split at h
  ·rename_i e sz0 by' z cmp pl v k n ht hx hi;split at h
   ·rename_i sz es ety hv he;obtain⟨hb,hn,h⟩:=Qf h;have hl:n.toNat<es.length:=by omega
    exact⟨_,h _ (zj hl),QAQ hti hop (hti _ _ ht) rfl he hx hv hi (zh hb) hn (zj hl)⟩
   ·exact h.elim
  ·rename_i len e sz0 by' z cmp pl k cs kk n ht hx hi;split at h
   ·rename_i ety he;obtain⟨hb,hn,hK⟩:=Qf h;replace hK:=AtD.bif (K:=λl=>K (.d (.fp _ l))) hK;simp only[zf,yc]at hb;exact⟨_,hK,QBM hti hop (hti _ _ ht) rfl he hx hi (yg hb.1) hn⟩
   ·exact h.elim
  ·exact h.elim
 ·rename_i t x i hop;split at h
  ·rename_i sz0 by' z cmp pl l k n ht hx hi;obtain⟨hn,h⟩:=h;have hl:n.toNat<l.length:=by omega
   exact⟨_,h _ (zj hl),QEU hop (hti _ _ ht) rfl hx hi hn (zj hl)⟩
  ·rename_i len e sz0 by' z cmp pl k cs kk n ht hx hi;split at h
   ·rename_i ety he;obtain⟨hb,hn,hK⟩:=Qf h;replace hK:=AtA.bif hK;simp only[zf,yc]at hb;exact⟨_,hK,QEV hti hop (hti _ _ ht) rfl he hx hi (yg hb.1) hb.2 hn⟩
   ·exact h.elim
  ·exact h.elim
 ·rename_i t x lo hi mx hop;split at h
  ·rename_i sz0 by' z cmp pl l ht hx;split at h
   ·rename_i lo hi;split at h
    ·rename_i i j hlo hhi;obtain⟨⟨c1,c2,c3⟩,hK⟩:=h;exact⟨_,hK,Y0 (i:=some i) (j:=some j) hop (hti _ _ ht) rfl hx hlo hhi (λx hx=>by cases hx;exact c1) (λx hx=>by cases hx;omega) (by simp;omega) (by simp;omega)⟩
    ·exact h.elim
   ·rename_i lo;split at h
    ·rename_i i hlo;obtain⟨⟨c1,c2⟩,hK⟩:=h;have:=Y0 (P:=P) (mem:=mem) (nx:=nx) (i:=some i) (j:=none) hop (hti _ _ ht) rfl hx hlo trivial (λx hx=>by cases hx;exact c1) (λx hx=>by cases hx) (by simp;omega) (by simp);simp only[Option.map,Option.getD,x7]at this;exact⟨_,hK,this⟩
    ·exact h.elim
   ·rename_i hi;split at h
    ·rename_i j hhi;obtain⟨⟨c1,c2⟩,hK⟩:=h;exact⟨_,hK,Y0 (i:=none) (j:=some j) hop (hti _ _ ht) rfl hx trivial hhi (λx hx=>by cases hx) (λx hx=>by cases hx;exact c1) (by simp) (by simp;omega)⟩
    ·exact h.elim
   ·exact h.elim
  ·rename_i e sz0 by' z cmp pl v ht hx;split at h
   ·rename_i sz es ety hv he;obtain⟨hb,h⟩:=Qf h;have hsz:=zh hb;split at h
    ·rename_i lo hi;split at h
     ·rename_i i j hlo hhi;obtain⟨⟨c1,c2,c3⟩,hK⟩:=h;exact⟨_,hK,XH (i:=some i) (j:=some j) (m:=none) hti hop (hti _ _ ht) rfl he hx hv hsz hlo hhi trivial (by simp) (λx hx=>by cases hx;exact c1) (λx hx=>by cases hx;omega) (λx hx=>by cases hx) (by simp;omega) (by simp;omega)⟩
     ·exact h.elim
    ·rename_i lo;split at h
     ·rename_i i hlo;obtain⟨⟨c1,c2⟩,hK⟩:=h;have:=XH (P:=P) (mem:=mem) (nx:=nx) (i:=some i) (j:=none) (m:=none) hti hop (hti _ _ ht) rfl he hx hv hsz hlo trivial trivial (by simp) (λx hx=>by cases hx;exact c1) (λx hx=>by cases hx) (λx hx=>by cases hx) (by simp;omega) (by simp);simp only[Option.map,Option.getD,x7,Option.isSome,yw,if_false]at this;exact⟨_,hK,this⟩
     ·exact h.elim
    ·rename_i hi;split at h
     ·rename_i j hhi;obtain⟨⟨c1,c2⟩,hK⟩:=h;exact⟨_,hK,XH (i:=none) (j:=some j) (m:=none) hti hop (hti _ _ ht) rfl he hx hv hsz trivial hhi trivial (by simp) (λx hx=>by cases hx) (λx hx=>by cases hx;exact c1) (λx hx=>by cases hx) (by simp) (by simp;omega)⟩
     ·exact h.elim
    ·rename_i hi mx;split at h
     ·rename_i j m hhi hmx;obtain⟨⟨c1,c2,rfl⟩,hK⟩:=h;exact⟨_,hK,XH (i:=none) (j:=some m) (m:=some m) hti hop (hti _ _ ht) rfl he hx hv hsz trivial hhi hmx (by simp) (λx hx=>by cases hx) (λx hx=>by cases hx;exact c1) (λx hx=>by cases hx;exact⟨c1,c2,rfl⟩) (by simp) (by simp;omega)⟩
     ·exact h.elim
    ·exact h.elim
   ·exact h.elim
  ·exact h.elim
 ·rename_i op t x y t' hop;split at h
  ·rename_i u v hx hy;obtain⟨z,hK,hd⟩:=QJe hti hop hx hy h;exact⟨_,hK,hd⟩
  ·exact h.elim
 ·rename_i t x hop;split at h
  ·rename_i b hx;exact⟨_,h,QN5 hop hx⟩
  ·exact h.elim
 ·rename_i t x hop;split at h
  ·rename_i k n hx;exact⟨_,h.run,QN6 hop hx⟩
  ·exact h.elim
 ·rename_i s t x hop;split at h
  ·rename_i hs ht hx;exact⟨_,h.run,QE4 hti hop hs rfl ht rfl hx⟩
  ·rename_i hs ht hx;exact⟨_,h,QE5 hti hop hs rfl ht rfl hx⟩
  ·rename_i hs ht hx;split at h
   ·rename_i sz es _ _ _ _ hv he;obtain⟨hb,l,hl,hK⟩:=Qf h;obtain rfl:=zh hb;exact⟨_,hK,QDK hti hop hs rfl ht rfl he rfl hx hv hl⟩
   ·exact h.elim
  ·rename_i hs ht hx;split at h
   ·rename_i he;exact⟨_,h,QBQ hti hop hs rfl ht rfl he rfl hx hmem⟩
   ·exact h.elim
  ·exact h.elim
 ·rename_i x i hop;split at h
  ·rename_i vs hx;obtain⟨v,hv,hK⟩:=QB3 h;exact⟨v,hK,QGj hop hx (hlt _ _ hx) hv⟩
  ·exact h.elim
 ·rename_i t parts hop;split at h
  ·rename_i ty ps pa ht hp hpa;obtain⟨hb,h⟩:=Qf h;simp only[zf,yc]at hb;have hz:=zh hb.1;split at h
   ·rename_i fs hk;obtain⟨hpl,h⟩:=Qf h;cases hany:ty.zero.any D.isFs with
    |true=>
     rw[hany]at h;simp only[cond_true]at h;split at h
     ·rename_i l hf;exact⟨_,h,Y1 hti hop ht hk hpa hlt hz hb.2 hpl hf⟩
     ·exact h.elim
    |false=>
     rw[hany]at h;simp only[cond_false]at h;split at h
     ·rename_i l hf;exact⟨_,h,QB2 hti hop ht hk hp hz hb.2 hpl hf⟩
     ·exact h.elim
   ·rename_i n e hk;split at h
    ·rename_i ety he;split at h
     ·rename_i l hf;obtain⟨hpl,hK⟩:=Qf h;exact⟨_,hK,QEY hti hop ht hk he hp hz hb.2 hpl hf⟩
     ·exact h.elim
    ·exact h.elim
   ·exact h.elim
  ·rename_i ty pa ht hp hpa;obtain⟨hb,h⟩:=Qf h;simp only[zf,yc]at hb;have hz:=zh hb.1;split at h
   ·rename_i fs hk;obtain⟨hpl,h⟩:=Qf h;split at h
    ·rename_i l hf;exact⟨_,h,Y1 hti hop ht hk hpa hlt hz hb.2 hpl hf⟩
    ·exact h.elim
   ·exact h.elim
  ·exact h.elim
 ·rename_i t n parts hop;split at h
  ·rename_i e _ _ _ _ _ ps ht hp;split at h
   ·rename_i ety he;obtain⟨hb,h⟩:=Qf h;simp only[zf,yc]at hb;split at h
    ·rename_i l hf;exact⟨_,h,QDL hti hop ht rfl he hp (zh hb.1.1) hb.1.2 (yg hb.2.1) hb.2.2 hf hmem⟩
    ·exact h.elim
   ·exact h.elim
  ·exact h.elim
 ·rename_i c hop;obtain⟨callee,args,ats⟩:=c;have hargs:∀l,args.toList=l->args=l.toArray:=λl hl=>by rw[<-hl]
  split at h
  ·rename_i x hc hl;simp only at hc hl;subst hc;obtain rfl:=hargs _ hl;have get:∀ {ty:Ty},(ats[0]?.bind ti)=some ty->∃t,ats[0]? =some t/\ti t=some ty:=fun{ty} hb=>by
    cases hq:ats[0]? with
    |none=>rw[hq]at hb;cases hb
    |some t=>rw[hq]at hb;exact⟨t,rfl,hb⟩
   split at h
   ·rename_i l _ _ _ _ _ hx ht;obtain⟨t,h0,ht⟩:=get ht;exact⟨_,h,QGk hti hop ht rfl h0 hx⟩
   ·rename_i v e _ _ _ _ _ hx ht;obtain⟨t,h0,ht⟩:=get ht;split at h
    ·rename_i sz es hv;exact⟨_,h,QEZ hti hop ht rfl h0 hx hv⟩
    ·exact h.elim
   ·rename_i n e _ _ _ _ _ ht;obtain⟨t,h0,ht⟩:=get ht;exact⟨_,h,QGl hti hop ht rfl h0⟩
   ·exact h.elim
  ·rename_i x y hc hl;simp only at hc hl;subst hc;obtain rfl:=hargs _ hl;split at h
   ·rename_i hx hy;exact⟨_,h.run,QN7 hop hx hy⟩
   ·exact h.elim
  ·rename_i x y hc hl;simp only at hc hl;subst hc;obtain rfl:=hargs _ hl;split at h
   ·rename_i hx hy;exact⟨_,h.run,QN8 hop hx hy⟩
   ·exact h.elim
  ·rename_i cc ll f hc;simp only at hc;subst hc;split at h
   ·rename_i args' ha;obtain⟨v,hf,hK⟩:=h.run;exact⟨v,hK,QFj hop ha hf hmem⟩
   ·exact h.elim
  ·exact h.elim
 ·exact h.elim
end
def u8A(b:UInt8):AV:= .d (.it .u8 b.toNat)
def J7(r:Operand->Option AV):Option Operand->Option (Option Int)
 |none=>some none
 |some x=>match r x with
  |some (.d (.it .i64 n))=>some (some n)
  |_=>none
def QN9(sz n off len cap:Nat)(lo hi:Option Int)(K:AV->Prop):Prop:=
 match lo,hi with
 |none,none=>K (.ms sz n off len cap)
 |none,some h=>(0<=h/\h<=cap)/\XO h.toNat λa=>K (.ms sz n off a cap)
 |some l,none=>(0<=l/\l<=len)/\XO (off+l.toNat*sz) λz=>XO (len-l.toNat) λa=>XO (cap-l.toNat) λb=>K (.ms sz n z a b)
 |some l,some h=>(0<=l/\l<=h/\h<=cap)/\XO (off+l.toNat*sz) λz=>XO (h.toNat-l.toNat) λa=>XO (cap-l.toNat) λb=>K (.ms sz n z a b)
def QQI(sz n i len lim:Nat)(lo hi:Option Int)(K:AV->Prop):Prop:=
 match lo,hi with
 |none,none=>K (.vx sz n i len)
 |none,some h=>(0<=h/\h<=lim)/\XO h.toNat λa=>K (.vx sz n i a)
 |some l,none=>(0<=l/\l<=len)/\XO (i+l.toNat) λz=>XO (len-l.toNat) λa=>K (.vx sz n z a)
 |some l,some h=>(0<=l/\l<=h/\h<=lim)/\XO (i+l.toNat) λz=>XO (h.toNat-l.toNat) λa=>K (.vx sz n z a)
def QJf(ti:Nat->Option Ty)(mem:List (Nat×Ob))(r:Operand->Option AV)(o:Oper)(K:AV->Prop):Option Prop:=
 match o.op with
 | .indexAddr t x i=>match r x with
  |some (.ms _ n off len cap)=>some (match ti t,r i with
   |some ⟨.slice e,_,_,_,_,_⟩,some (.d (.it _ j))=>match ti e with
    |some ety=>(0<=j/\j<len)/\XO (off+j.toNat*ety.size) λz=>K (.ptr n z)
    |none=>False
   |_,_=>False)
  |some (.ptr n off)=>some (match ti t,r i with
   |some ⟨.arr len e,_,_,_,_,_⟩,some (.d (.it _ j))=>match ti e with
    |some ety=>(0<=j/\j<len)/\XO (off+j.toNat*ety.size) λz=>K (.ptr n z)
    |none=>False
   |_,_=>False)
  |some (.vx sz n i0 len)=>some (match ti t,r i,look n mem with
   |some ⟨.slice e,_,_,_,_,_⟩,some (.d (.it _ j)),some (.vec _ sz' es _)=>match ti e with
    |some ety=>bif Nat.beq sz ety.size&&Nat.beq sz' sz then(0<=j/\j<len/\i0+len<=es.length)/\XO (i0+j.toNat) λz=>K (.vq sz n z 0)else False
    |none=>False
   |_,_,_=>False)
  |_=>none
 | .fieldAddr t x f=>match r x with
  |some (.vq sz n k off)=>some (match ti t with
   |some ⟨.struct fs,_,_,_,_,_⟩=>match Ju ti fs f with
    |some (fo,fsz)=>bif Nat.blt 0 fsz then K (.vq sz n k (off+fo))else False
    |none=>False
   |_=>False)
  |_=>none
 | .load t x=>match r x with
  |some (.vq sz n k off)=>some (match ti t,look n mem with
   |some ty,some (.vec _ sz' es _)=>bif Nat.beq sz' sz&&Nat.ble (off+ty.size) sz&&Nat.blt off sz then k<es.length/\∀c,es[k]? =some c->(bif Nat.ble 17 sz then AtA (ldD ty (c.drop off)) K else K (ldD ty (c.drop off)))else False
   |_,_=>False)
  |_=>none
 | .slice t x lo hi none=>match r x with
  |some (.ms _ n off len cap)=>some (match ti t,J7 r lo,J7 r hi with
   |some ⟨.slice e,_,_,_,_,_⟩,some lo,some hi=>match ti e with
    |some ety=>len<=cap/\QN9 ety.size n off len cap lo hi K
    |none=>False
   |_,_,_=>False)
  |some (.ptr n off)=>some (match ti t,J7 r lo,J7 r hi with
   |some ⟨.arr len e,_,_,_,_,_⟩,some lo,some hi=>match ti e with
    |some ety=>QN9 ety.size n off len len lo hi K
    |none=>False
   |_,_,_=>False)
  |some (.vx sz n i len)=>some (match ti t,J7 r lo,J7 r hi,look n mem with
   |some ⟨.slice e,_,_,_,_,_⟩,some lo,some hi,some (.vec _ sz' es _)=>match ti e with
    |some ety=>bif Nat.beq sz ety.size&&Nat.beq sz' sz&&Nat.blt 0 sz then QQI sz n i len (es.length-i) lo hi K else False
    |none=>False
   |_,_,_,_=>False)
  |_=>none
 | .convert s t x=>match r x with
  |some (.ms _ n off len cap)=>some (match ti s,ti t,look n mem with
   |some ⟨.slice e,_,_,_,_,_⟩,some ⟨.string,_,_,_,_,_⟩,some (.cells size c)=>match ti e with
    |some ⟨.int .u8,1,_,_,_,_⟩=>∃l,(off+len<=size/\(c.drop off).take len=l.map u8A)/\K (.d (.st l))
    |_=>False
   |_,_,_=>False)
  |some (.ptr n off)=>some (match ti s,ti t,look n mem with
   |some ⟨.ptr e,_,_,_,_,_⟩,some ⟨.usafe,_,_,_,_,_⟩,some (.cells size _)=>match ti e with
    |some ety=>bif Nat.blt 0 ety.size&&Nat.blt off size then K (.ptr n off)else False
    |none=>False
   |some ⟨.usafe,_,_,_,_,_⟩,some ⟨.ptr e,_,_,_,_,_⟩,some (.cells size _)=>match look (n+1) mem,ti e with
    |some (.tag m t'),some ety=>bif Nat.beq m n&&Nat.beq t' e&&(Nat.beq off 0&&Nat.ble ety.size size&&Nat.blt 0 ety.size)then K (.ptr n off)else False
    |_,_=>False
   |_,_,_=>False)
  |_=>none
 | .binOp op t x y _=>match op,r x,r y,ti t with
  | .eql,some (.ptr n a),some (.ptr m b),some ⟨.ptr e,_,_,_,_,_⟩=>some (bif Nat.beq n m&&Nat.beq a b&&(ti e).isSome then K (.d (.bl true))else False)
  | .neq,some (.ptr n a),some (.ptr m b),some ⟨.ptr e,_,_,_,_,_⟩=>some (bif Nat.beq n m&&Nat.beq a b&&(ti e).isSome then K (.d (.bl false))else False)
  | .eql,some (.ptr _ _),some (.d (.ot (.pointer none))),some ⟨.ptr _,_,_,_,_,_⟩=>some (K (.d (.bl false)))
  | .neq,some (.ptr _ _),some (.d (.ot (.pointer none))),some ⟨.ptr _,_,_,_,_,_⟩=>some (K (.d (.bl true)))
  | .eql,some (.d (.fp _ _)),some (.d (.ot (.pointer none))),some ⟨.ptr _,_,_,_,_,_⟩=>some (K (.d (.bl false)))
  | .neq,some (.d (.fp _ _)),some (.d (.ot (.pointer none))),some ⟨.ptr _,_,_,_,_,_⟩=>some (K (.d (.bl true)))
  | .eql,some (.d (.ot (.pointer none))),some (.d (.ot (.pointer none))),some ⟨.ptr _,_,_,_,_,_⟩=>some (K (.d (.bl true)))
  | .neq,some (.d (.ot (.pointer none))),some (.d (.ot (.pointer none))),some ⟨.ptr _,_,_,_,_,_⟩=>some (K (.d (.bl false)))
  |_,_,_,_=>none
 | .call ⟨.builtin .unsafeSliceData,args,_⟩=>match args.toList with
  |[x]=>match r x with
   |some (.ts sz es n)=>some (match look n mem with
    |some (.tail _ b)=>bif b&&Nat.beq sz 1 then K (.sd es n)else False
    |_=>False)
   |some (.nl _)=>some (K (.d (.ot (.pointer none))))
   |_=>none
  |_=>none
 | .makeFunc fn first caps=>match Xy r first.toList,Xy r caps.toList with
  |some f,some c=>bif f.all AV.flat&&c.all AV.flat then some (K (.fn fn f c))else none
  |_,_=>none
 | .call ⟨.builtin .len,args,ats⟩=>match args.toList with
  |[x]=>match r x,ats[0]?.bind ti with
   |some (.ms _ _ _ len _),some ⟨.slice _,_,_,_,_,_⟩=>some (K (.d (.it .i64 len)))
   |some (.vx _ _ _ len),some ⟨.slice _,_,_,_,_,_⟩=>some (K (.d (.it .i64 len)))
   |_,_=>none
  |_=>none
 |_=>none
structure QTz(P:Program)(k e:Nat)(K:AV->Prop):Prop where
 run:∃kk z,(∃kt,P.underlying k=some (.int kt))/\(∀w,(zeroValue e).run P w= .ok (.int kk z) w)/\K (.d (.it kk z))
def QOA(P:Program)(ti:Nat->Option Ty)(r:Operand->Option AV)(o:Oper)(K:AV->Prop):Option Prop:=
 match o.op with
 | .lookup t x i false=>match r x,r i,ti t with
  |some (.d (.ot (.map none))),some (.d (.it _ _)),some ⟨.map k e,_,_,_,_,_⟩=>some (QTz P k e K)
  |_,_,_=>none
 |_=>none
def D.flat:D->Bool
 | .fs .. | .fp .. =>false
 |_=>true
def AV.flatP:AV->Bool
 | .d x=>x.flat
 | .dg _ cs=>cs.all D.flat
 | .tup vs=>vs.all fun| .d x=>x.flat| .dg _ cs=>cs.all D.flat|_=>false
 |_=>false
def QQJ(mem:List (Nat×Ob)):AV->AV->Prop
 | .ptr n off,.d (.fp k ds)=>∃size c,look n mem=some (.cells size c)/\off+k<=size/\ds.length=k/\frzL ((c.drop off).take k)=some ds
 |u,v=>u.pure1=some v
def QKs(mem:List (Nat×Ob)):List AV->List AV->Prop
 |[],[]=>True
 |u::l,v::l'=>QQJ mem u v/\QKs mem l l'
 |_,_=>False
inductive FrA(mem:List (Nat×Ob)):List AV->List D->Prop
 |nil:FrA mem [] []
 |pl(v:AV)(x:D)(t:List AV)(l:List D)(h:frzL [v]=some [x])(k:FrA mem t l):FrA mem (v::t) (x::l)
 |vx(sz n len ty:Nat)(es:List (List D))(f:Bool)(t:List AV)(l:List D)(h:look n mem=some (.vec ty sz es f))(hl:es.length=len)(k:FrA mem t l):FrA mem (.vx sz n 0 len::t) (.fs sz es::l)
 |fp(n off k size:Nat)(c:List AV)(ds:List D)(t:List AV)(l:List D)(h:look n mem=some (.cells size c))(hle:off+k<=size)(hlen:ds.length=k)(hd:FrA mem ((c.drop off).take k) ds)(ht:FrA mem t l):FrA mem (.ptr n off::t) (.fp k ds::l)
inductive ArF(mem:List (Nat×Ob)):List AV->List AV->Prop
 |nil:ArF mem [] []
 |pl(u v:AV)(l l':List AV)(h:u.pure1=some v)(k:ArF mem l l'):ArF mem (u::l) (v::l')
 |fr(u:AV)(x:D)(l l':List AV)(h:FrA mem [u] [x])(k:ArF mem l l'):ArF mem (u::l) (.d x::l')
inductive Jj(P:Program)(mem:List (Nat×Ob))(f:Nat)(l:List AV)(K:AV->Prop):Prop where
 |mk(run:∃l' r,QKs mem l l'/\FnC P f l' r/\r.flatP=true/\K r)
 |mkF(run:∃l' r,ArF mem l l'/\FnC P f l' r/\r.flatP=true/\K r)
def evR(P:Program)(mem:List (Nat×Ob))(r:Operand->Option AV)(o:Oper)(K:AV->Prop):Option Prop:=
 match o.op with
 | .call ⟨.value (.func f),args,_⟩=>match QC1 r args.toList with
  |some _=>none
  |none=>match Xy r args.toList with
   |some l=>some (Jj P mem f l K)
   |none=>none
 |_=>none
inductive JC(e:List (List D))(K:List (List D)->Prop):Prop
 |mk(l:List (List D))(h:l=e)(k:K l)
variable {K:List (List D)->Prop}
theorem JC.now{e:List (List D)}(h:K e):JC e K:=⟨e,rfl,h⟩
theorem JC.out{e:List (List D)}(h:JC e K):K e:=by obtain⟨l,rfl,k⟩:=h;exact k
def QSB(sz:Nat)(es:List (List D))(lo hi:Option Int)(K:AV->Prop):Prop:=
 match lo,hi with
 |none,none=>K (.d (.fs sz es))
 |none,some h=>(0<=h/\h<=es.length)/\JC (es.take h.toNat) λl=>K (.d (.fs sz l))
 |some l,none=>(0<=l/\l<=es.length)/\JC (es.drop l.toNat) λl=>K (.d (.fs sz l))
 |some l,some h=>(0<=l/\l<=h/\h<=es.length)/\JC ((es.take h.toNat).drop l.toNat) λl=>K (.d (.fs sz l))
structure SlF(sz len:Nat)(cs:List D)(lo hi:Option Int)(K:AV->Prop):Prop where
 run:∃es:List (List D),(es.length=len/\(∀x∈es,x.length=sz)/\es.flatten=cs.take (len*sz))/\QSB sz es lo hi K
def QSC(ti:Nat->Option Ty)(r:Operand->Option AV)(o:Oper)(K:AV->Prop):Option Prop:=
 match o.op with
 | .slice t x lo hi none=>match r x,ti t,J7 r lo,J7 r hi with
  |some (.d (.fp k cs)),some ⟨.arr len e,_,_,_,_,_⟩,some lo,some hi=>some (match ti e with
   |some ety=>bif Nat.ble (len*ety.size) k then SlF ety.size len cs lo hi K else False
   |none=>False)
  |_,_,_,_=>none
 |_=>none
def evV(P:Program)(ti:Nat->Option Ty)(mem:List (Nat×Ob))(r:Operand->Option AV)(o:Oper)(K:AV->Prop):Prop:=
 match QJf ti mem r o K with
 |some p=>p
 |none=>match QOA P ti r o K with
  |some p=>p
  |none=>match evR P mem r o K with
   |some p=>p
   |none=>match QSC ti r o K with
    |some p=>p
    |none=>QN4 P ti mem r o K
section
variable {P:Program} {ti:Nat->Option Ty} {mem:List (Nat×Ob)} {nx:Nat} {r:Operand->Option AV} {o:Oper} {K:AV->Prop}
theorem QQt{len:Nat}(h:n<m):(AV.ms sz n off len cap).lt m=true:=by simp[AV.lt,AV.lt2,AV.lt1,AV.lt0,h]
theorem QBR(h:n<m):(AV.ptr n off).lt m=true:=by simp[AV.lt,AV.lt2,AV.lt1,AV.lt0,h]
theorem QIC{len:Nat}(h:(AV.ms sz n off len cap).lt m=true):n<m:=by simpa [AV.lt,AV.lt2,AV.lt1,AV.lt0]using h
theorem QAm(h:(AV.ptr n off).lt m=true):n<m:=by simpa [AV.lt,AV.lt2,AV.lt1,AV.lt0]using h
theorem QB4{e:Nat}{len:Nat}{k:IntKind}{j:Int}(hti:QU P ti)(hop:o.op= .indexAddr t x y)(ht:YZ P t=some ty)(hk:ty.kd= .slice e)(he:ti e=some ety)
  (hx:r x=some (.ms zz n off len cap)) (hy:r y=some (.d (.it k j))) (hn:0<=j/\j<len) (hl:n<nx):ZH P mem nx r o (.ptr n (off+j.toNat*ety.size)):=by
 obtain⟨u,i,ht⟩:=QE ht;obtain⟨ue,ie,het⟩:=QE (hti _ _ he);obtain rfl:=Q3 ht hk;refine .of_run (QBR hl) λκ g a w hi ho=>?_;have h1:=ho x (by simp[hop,Op.operands]) _ hx;have h2:=ZI (ho y (by simp[hop,Op.operands]) _ hy);generalize ha:a.eval x=q at h1;cases h1 with|ms _ _ _ _ _ ad had hc=>?_
 have hcap:0<cap:=by omega
 obtain rfl:=had hcap;refine⟨_,?_,.ptr _ _⟩;have hcond:(0:Int)<=j/\j<(len:Int):=hn;simp only[execOp,hop,ha,h2,Instr.indexAt,asIntOf,zp,zq,zg,run_underlying ht.und,ww];rw[if_pos hcond];simp only[zp,QV het.info,zg,zq,ZB,het.size]
theorem QA3{e len:Nat}{k:IntKind}{j:Int}(hti:QU P ti)(hop:o.op= .indexAddr t x y)(ht:YZ P t=some ty)(hk:ty.kd= .arr len e)(he:ti e=some ety)
  (hx:r x=some (.ptr n off)) (hy:r y=some (.d (.it k j))) (hn:0<=j/\j<len) (hl:n<nx):ZH P mem nx r o (.ptr n (off+j.toNat*ety.size)):=by
 obtain⟨u,i,ht⟩:=QE ht;obtain⟨ue,ie,het⟩:=QE (hti _ _ he);obtain rfl:=QAO ht hk;refine .of_run (QBR hl) λκ g a w hi ho=>?_;have h1:=ho x (by simp[hop,Op.operands]) _ hx;have h2:=ZI (ho y (by simp[hop,Op.operands]) _ hy);generalize ha:a.eval x=q at h1;cases h1 with|ptr=>?_
 refine⟨_,?_,.ptr _ _⟩;have hcond:(0:Int)<=j/\j<(len:Int):=hn;simp only[execOp,hop,ha,h2,Instr.indexAt,asIntOf,Instr.sureAddr,zp,zq,zg,run_underlying ht.und,ww];rw[if_pos hcond];simp only[zp,QV het.info,zg,zq,ZB,het.size]
theorem JR{x:Option Operand}{i:Option Int}(h:J7 r x=some i)(hm:∀y,x=some y->y∈o.op.operands.toList)(ho:∀x∈o.op.operands.toList,∀v,r x=some v->AVR g v (a.eval x)):x.map a.eval=i.map (.int .i64):=by
 cases x with
 |none=>obtain rfl:=za h;rfl
 |some x=>
  simp only[J7]at h;split at h
  ·rename_i n hn;obtain rfl:=za h;simp only[Option.map,yo];exact ZI (ho _ (hm _ rfl) _ hn)
  ·cases h
theorem QKt{len:Nat}{lo hi:Option Int}(hc:len<=cap)(h:QN9 sz n off len cap lo hi K):(∀x,lo=some x->0<=x)/\(∀x,hi=some x->0<=x)/\(bds len cap lo hi none).1<=(bds len cap lo hi none).2.1/\(bds len cap lo hi none).2.1<=cap/\
  ∃v,K v/\v= .ms sz n (off+(bds len cap lo hi none).1*sz) ((bds len cap lo hi none).2.1-(bds len cap lo hi none).1) (cap-(bds len cap lo hi none).1):=by
 cases lo with
 |none=>
  cases hi with
  |none=>exact⟨(λ_ h=>by cases h),(λ_ h=>by cases h),z7 _,hc,_,h,by simp[bds]⟩
  |some j=>
   obtain⟨h1,h⟩:=h;exact⟨(λ_ h=>by cases h),(λx h=>by cases h;exact h1.1),z7 _,(by simp[bds];omega),_,h.run,by simp[bds]⟩
 |some i=>
  cases hi with
  |none=>
   obtain⟨h1,h⟩:=h;exact⟨(λx h=>by cases h;exact h1.1),(λ_ h=>by cases h),(by simp[bds];omega),(by simp[bds];omega),_,h.run.run.run,by simp[bds]⟩
  |some j=>
   obtain⟨h1,h⟩:=h;exact⟨(λx h=>by cases h;exact h1.1),(λx h=>by cases h;omega),(by simp[bds];omega),(by simp[bds];omega),_,h.run.run.run,by simp[bds]⟩
theorem QE6{e:Nat}{i:Option Int}{len:Nat}(hti:QU P ti)(hop:o.op= .slice t x lo hi none)(ht:YZ P t=some ty)(hk:ty.kd= .slice e)(he:ti e=some ety)
  (hx:r x=some (.ms zz n off len cap)) (h1:J7 r lo=some i) (h2:J7 r hi=some j) (hl:n<nx) (hs:QN9 ety.size n off len cap i j K) (hcap:len<=cap):∃v,K v/\ZH P mem nx r o v:=by
 obtain⟨u,inf,ht⟩:=QE ht;obtain⟨ue,ie,het⟩:=QE (hti _ _ he);obtain rfl:=Q3 ht hk;obtain⟨c1,c2,c3,c4,v,hK,rfl⟩:=QKt hcap hs;refine⟨_,hK,.of_run (QQt hl) λκ g a w hi' ho=>?_⟩;have e1:=JR (o:=o) (g:=g) (a:=a) h1 (λy hy=>by subst hy;simp[hop,Op.operands]) ho;have e2:=JR (o:=o) (g:=g) (a:=a) h2 (λy hy=>by subst hy;simp[hop,Op.operands]) ho;have hxv:=ho x (by simp[hop,Op.operands]) _ hx;generalize ha:a.eval x=q at hxv;cases hxv with|ms _ _ _ _ _ ad had _=>?_
 have hrun:=X1 (P:=P) true len cap (lo.map a.eval) (hi.map a.eval) none i j none e1 e2 rfl (by simp) hcap c1 c2 (by simp) c3 c4 (zt _) w;refine⟨.slice (if(bds len cap i j none).2.2=(bds len cap i j none).1 then ad else ad.map (·.add ((bds len cap i j none).1*ety.size))) ((bds len cap i j none).2.1-(bds len cap i j none).1) (cap-(bds len cap i j none).1),?_,.ms _ _ _ _ _ _ (λh=>?_) (by omega)⟩
 ·have e3:(bds len cap i j none).2.2=cap:=rfl;simp only[execOp,hop,ha,Instr.sliceAt,zp,zq,zg,run_underlying ht.und,Instr.slice,qm,hrun,QV het.info,het.size,e3]
 ·have e3:(bds len cap i j none).2.2=cap:=rfl;rw[e3,if_neg (by omega),had (by omega)];simp only[Option.map,ZB]
theorem QDM{e len:Nat}{i:Option Int}(hti:QU P ti)(hop:o.op= .slice t x lo hi none)(ht:YZ P t=some ty)(hk:ty.kd= .arr len e)(he:ti e=some ety)
  (hx:r x=some (.ptr n off)) (h1:J7 r lo=some i) (h2:J7 r hi=some j) (hl:n<nx) (hs:QN9 ety.size n off len len i j K):∃v,K v/\ZH P mem nx r o v:=by
 obtain⟨u,inf,ht⟩:=QE ht;obtain⟨ue,ie,het⟩:=QE (hti _ _ he);obtain rfl:=QAO ht hk;obtain⟨c1,c2,c3,c4,v,hK,rfl⟩:=QKt (zt _) hs;refine⟨_,hK,.of_run (QQt hl) λκ g a w hi' ho=>?_⟩;have e1:=JR (o:=o) (g:=g) (a:=a) h1 (λy hy=>by subst hy;simp[hop,Op.operands]) ho;have e2:=JR (o:=o) (g:=g) (a:=a) h2 (λy hy=>by subst hy;simp[hop,Op.operands]) ho;have hxv:=ho x (by simp[hop,Op.operands]) _ hx;generalize ha:a.eval x=q at hxv;cases hxv with|ptr=>?_
 have hrun:=X1 (P:=P) false len len (lo.map a.eval) (hi.map a.eval) none i j none e1 e2 rfl (by simp) (zt _) c1 c2 (by simp) c3 c4 (zt _) w;refine⟨.slice (some (if(bds len len i j none).2.2=(bds len len i j none).1 then⟨g.blk n,off,none⟩else(⟨g.blk n,off,none⟩:Addr).add ((bds len len i j none).1*ety.size))) ((bds len len i j none).2.1-(bds len len i j none).1) (len-(bds len len i j none).1),?_,.ms _ _ _ _ _ _ (λh=>?_) (by omega)⟩
 ·have e3:(bds len len i j none).2.2=len:=rfl;simp only[execOp,hop,ha,Instr.sliceAt,Instr.sureAddr,zp,zq,zg,run_underlying ht.und,qm,hrun,QV het.info,het.size,e3]
 ·have e3:(bds len len i j none).2.2=len:=rfl;rw[e3,if_neg (by omega),ZB]
theorem QGm{e:Nat}{len:Nat}{l:List UInt8}(hti:QU P ti)(hop:o.op= .convert s t x)(hs:ti s=some sty)(hsk:sty.kd= .slice e)(ht:ti t=some ty)(hk:ty.kd= .string)(he:ti e=some ety)(hek:ety.kd= .int .u8)
  (hx:r x=some (.ms zz n off len cap)) (hm:look n mem=some (.cells size c)) (hle:off+len<=size) (hl:(c.drop off).take len=l.map u8A):ZH P mem nx r o (.d (.st l)):=by
 obtain⟨u,i,hs⟩:=QE (hti _ _ hs);obtain⟨u',i',ht⟩:=QE (hti _ _ ht);obtain⟨u'',i'',he⟩:=QE (hti _ _ he);obtain rfl:=Q3 hs hsk;obtain rfl:=Z3 ht hk;obtain rfl:=QAP he hek;refine .of_run rfl λκ g A W hi ho=>?_;have h1:=ho x (by simp[hop,Op.operands]) _ hx;generalize ha:A.eval x=q at h1;cases h1 with|ms _ _ _ _ _ ad had hc=>?_
 obtain⟨arr,T,e1,e2,e3,e4,e5,e6⟩:=hi.obs n _ hm;have hlen:l.length=len:=by
  have:=congrArg List.length hl;simp only[zy,ym,zb]at this;omega
 have main:(Conv.bytesToString (.slice ad len cap)).run P W= .ok (.string ⟨l.toArray⟩) W:=by
  by_cases h0:len=0
  ·subst h0;have hl0:l=[]:=yx.1 hlen;subst hl0;cases ad with
   |none=>rfl
   |some ad=>
    rw[run_bytesToString W ad 0 cap [] (by simp[loadCells,loadCellsFrom])];rfl
  ·obtain rfl:=had (by omega);have hld:(loadCells ⟨g.blk n,off,none⟩ len).run P W= .ok ((l.map λb=>(b.toNat:Int)).map (Value.int .u8)).toArray W:=by
    have:=run_loadCells_list (P:=P) (w:=W) ⟨g.blk n,off,none⟩ ((l.map λb=>(b.toNat:Int)).map (Value.int .u8)) (λj v hj=>by
     rw[ZB];have hjl:j<l.length:=by
      rcases yj j l.length with h|h
      ·exact h
      ·simp [wo h]at hj
     have hv':v= .int .u8 l[j].toNat:=by simpa [hjl]using hj.symm
     have hcj:c[off+j]? =some (u8A l[j]):=by
      have:=congrArg (λz=>z[j]?) hl;simp only[wb,vt,yv,zj hjl,ug]at this;rw[if_pos (by omega)]at this;exact this
     have hlt:off+j<c.length:=by omega
     have hce:c[off+j]=u8A l[j]:=by rw[zj hlt]at hcj;exact za hcj
     have hr:=e5 (off+j) hlt;rw[hce]at hr;unfold u8A at hr;have hav:arr.getD (off+j) undef= .int .u8 l[j].toNat:=by
      generalize arr.getD (off+j) undef=z at hr;cases hr with|d _ _ h=>cases h;rfl
     have hcell:W.cell? ⟨g.blk n,off+j,none⟩=some (arr.getD (off+j) undef):=by
      simp[World.cell?,e1,Array.getD,show off+j<arr.size by omega]
     rw[hv',<-hav,<-hcell])
    simpa [hlen]using this
   rw[run_bytesToString W _ len cap _ hld,QBP];congr 2
 exact⟨_,by simp only[execOp,hop,ha,zp,run_convert_bytes_string W s t e ad len cap hs.und he.und ht.und,main,zg,zq],.d _ _ (.st _)⟩
theorem QID{ats:Array TypeId}{e len:Nat}(hti:QU P ti)(hop:o.op= .call ⟨.builtin .len,#[x],ats⟩)(ht:ti t=some ty)(hk:ty.kd= .slice e)(h0:ats[0]? =some t)(hx:r x=some (.ms zz n off len cap)):ZH P mem nx r o (.d (.it .i64 len)):=by
 obtain⟨u,i,ht⟩:=QE (hti _ _ ht);obtain rfl:=Q3 ht hk;refine .of_run rfl λκ g a w hi ho=>⟨.int .i64 len,?_,.d _ _ (.it _ _)⟩;have h1:=ho x (by simp[hop,Op.operands,Call.operands]) _ hx;generalize ha:a.eval x=q at h1;cases h1 with|ms _ _ _ _ _ ad had hc=>?_
 rw[QQ hop];simp[builtin,Builtin.len_,ha,h0,run_underlying ht.und,goInt]
theorem QKu{len:Nat}(h:n<m):(AV.vx sz n i len).lt m=true:=by simp[AV.lt,AV.lt2,AV.lt1,AV.lt0,h]
theorem QT0(h:n<m):(AV.vq sz n k off).lt m=true:=by simp[AV.lt,AV.lt2,AV.lt1,AV.lt0,h]
theorem QIE{len:Nat}(h:(AV.vx sz n i len).lt m=true):n<m:=by simpa [AV.lt,AV.lt2,AV.lt1,AV.lt0]using h
theorem QOB(h:(AV.vq sz n k off).lt m=true):n<m:=by simpa [AV.lt,AV.lt2,AV.lt1,AV.lt0]using h
theorem QIF{ats:Array TypeId}{e len:Nat}(hti:QU P ti)(hop:o.op= .call ⟨.builtin .len,#[x],ats⟩)(ht:ti t=some ty)(hk:ty.kd= .slice e)(h0:ats[0]? =some t)(hx:r x=some (.vx sz n i len)):ZH P mem nx r o (.d (.it .i64 len)):=by
 obtain⟨u,inf,ht⟩:=QE (hti _ _ ht);obtain rfl:=Q3 ht hk;refine .of_run rfl λκ g a w hi ho=>⟨.int .i64 len,?_,.d _ _ (.it _ _)⟩;have h1:=ho x (by simp[hop,Op.operands,Call.operands]) _ hx;generalize ha:a.eval x=q at h1;cases h1 with|vx _ _ _ _ ad c hc had=>?_
 rw[QQ hop];simp[builtin,Builtin.len_,ha,h0,run_underlying ht.und,goInt]
theorem QB5{e tt:Nat}{len:Nat}{k:IntKind}{j:Int}(hti:QU P ti)(hop:o.op= .indexAddr t x y)(ht:YZ P t=some ty)(hk:ty.kd= .slice e)(he:ti e=some ety)(hsz:sz=ety.size)
  (hx:r x=some (.vx sz n i0 len)) (hy:r y=some (.d (.it k j))) (hm:look n mem=some (.vec tt sz es fl)) (hn:0<=j/\j<len/\i0+len<=es.length) (hl:n<nx):ZH P mem nx r o (.vq sz n (i0+j.toNat) 0):=by
 obtain⟨u,i,ht⟩:=QE ht;obtain⟨ue,ie,het⟩:=QE (hti _ _ he);obtain rfl:=Q3 ht hk;refine .of_run (QT0 hl) λκ g a w hi ho=>?_;have h1:=ho x (by simp[hop,Op.operands]) _ hx;have h2:=ZI (ho y (by simp[hop,Op.operands]) _ hy);generalize ha:a.eval x=q at h1;cases h1 with|vx _ _ _ _ ad c hc had=>?_
 obtain⟨hh,rfl,hcp⟩:=had.pos (by omega);have hcond:(0:Int)<=j/\j<(len:Int):=⟨hn.1,hn.2.1⟩;have hv:=AVR.vq (g:=g) sz n (i0+j.toNat) 0 hh;rw[show g.hi n+(i0+j.toNat)*sz+0=g.hi n+i0*sz+j.toNat*sz by rw[z2];omega]at hv;refine⟨_,?_,hv⟩;simp only[execOp,hop,ha,h2,Instr.indexAt,asIntOf,zp,zq,zg,run_underlying ht.und,ww];rw[if_pos hcond];simp only[zp,QV het.info,zg,zq,ZB,het.size,hsz]
theorem QGn{tt:Nat}{c:List D}(hop:o.op= .load t x)(ht:YZ P t=some ty)(hr:r x=some (.vq sz n k off))(hm:look n mem=some (.vec tt sz es fl))(hs:off+ty.size<=sz)(h0:off<sz)(hk:k<es.length)(hc:es[k]? =some c):ZH P mem nx r o (ldD ty (c.drop off)):=by
 obtain⟨u,i,ht⟩:=QE ht;refine .of_run QJc λκ g a w hi ho=>?_;have h1:=ho x (by simp[hop,Op.operands]) _ hr;generalize ha:a.eval x=q at h1;cases h1 with|vq _ _ _ _ hh=>?_
 obtain⟨v1,v2,v3⟩:=hi.obs n _ hm;obtain⟨arr,e1,e2,e3,e4,e5,_,_⟩:=v3 hh;have hck:es[k]=c:=by rw[zj hk]at hc;exact za hc
 have hcl:c.length=sz:=by rw[<-hck];exact v1 _ (zm hk)
 have hb:k*sz+sz<=g.cp n:=by
  have:(k+1)*sz<=es.length*sz:=zw _ (by omega);rw[z2]at this;omega
 have hcell:∀j,j<arr.size->w.cell? ⟨g.blk n,j,none⟩=some (arr.getD j undef):=λj hj=>by
  simp[World.cell?,e1,Array.getD,hj]
 have hd:∀j (h:j<(c.drop off).length),DR g.F (c.drop off)[j] (arr.getD (g.hi n+k*sz+off+j) undef):=λj h=>by
  simp only[ym]at h;have:=e4 k hk (off+j) (by rw[hck];omega);rw[xm];have e:es[k][off+j]'(by rw[hck];omega)=c[off+j]:=by simp only[hck]
  rw[e,<-wl]at this;exact this
 refine⟨_,?_,QGe (f:=λj=>arr.getD (g.hi n+k*sz+off+j) undef) hd (by rw[ym];omega) (by rw[ym];omega)⟩;simp only[execOp,hop,ha,Instr.loadAt,Instr.sureAddr,zp,zq,zg];rw[JQ ht (f:=λj=>arr.getD (g.hi n+k*sz+off+j) undef) (λj hj=>hcell _ (by omega)) (hcell _ (by omega))];rfl
theorem QQK{len lim:Nat}{lo hi:Option Int}(h:QQI sz n i len lim lo hi K):(∀x,lo=some x->0<=x)/\(∀x,hi=some x->0<=x)/\(lo.map Int.toNat).getD 0<=(hi.map Int.toNat).getD len/\((hi.map Int.toNat).getD len<=len\/(hi.map Int.toNat).getD len<=lim)/\
  ∃v,K v/\v= .vx sz n (i+(lo.map Int.toNat).getD 0) ((hi.map Int.toNat).getD len-(lo.map Int.toNat).getD 0):=by
 unfold QQI at h;split at h
 ·exact ⟨(λ_ h=>by cases h),(λ_ h=>by cases h),z7 _,.inl (zt _),_,h,by simp⟩
 ·rename_i b;refine⟨(λ_ h=>by cases h),(λx hx=>by cases hx;exact h.1.1),z7 _,.inr (by simp;omega),_,h.2.run,by simp⟩
 ·rename_i b;refine⟨(λx hx=>by cases hx;exact h.1.1),(λ_ h=>by cases h),by simp;omega,.inl (zt _),_,h.2.run.run,by simp⟩
 ·rename_i b c;refine⟨(λx hx=>by cases hx;exact h.1.1),(λx hx=>by cases hx;omega),by simp;omega,.inr (by simp;omega),_,h.2.run.run,by simp⟩
theorem QSD{c:Nat}(hv:ZM g w n t sz es fl)(had:QH6 g sz n i ad c)(h0:0<sz):es.length-i<=c:=by
 cases hh:g.has n with
 |false=>rw[hv.2.1 hh];exact xy (Nat.sub_le _ _) (z7 _)
 |true=>
  obtain⟨arr,e1,e2,e3,_⟩:=hv.2.2 hh;rw[<-had.1 hh]at e3;have:=qy e3 h0;omega
theorem QE7{e:Nat}{i:Option Int}{len tt:Nat}(hti:QU P ti)(hop:o.op= .slice t x lo hi none)(ht:YZ P t=some ty)(hk:ty.kd= .slice e)(he:ti e=some ety)(hsz:sz=ety.size)(h0:0<sz)
  (hx:r x=some (.vx sz n i0 len)) (hm:look n mem=some (.vec tt sz es fl)) (h1:J7 r lo=some i) (h2:J7 r hi=some j) (hl:n<nx) (hs:QQI sz n i0 len (es.length-i0) i j K):∃v,K v/\ZH P mem nx r o v:=by
 obtain⟨u,inf,ht⟩:=QE ht;obtain⟨ue,ie,het⟩:=QE (hti _ _ he);obtain rfl:=Q3 ht hk;obtain⟨c1,c2,c3,c4,v,hK,rfl⟩:=QQK hs;refine⟨_,hK,.of_run (QKu hl) λκ g a w hi' ho=>?_⟩;have e1:=JR (o:=o) (g:=g) (a:=a) h1 (λy hy=>by subst hy;simp[hop,Op.operands]) ho;have e2:=JR (o:=o) (g:=g) (a:=a) h2 (λy hy=>by subst hy;simp[hop,Op.operands]) ho;have hxv:=ho x (by simp[hop,Op.operands]) _ hx;generalize ha:a.eval x=q at hxv;cases hxv with|vx _ _ _ _ ad c hc had=>?_
 have hlim:es.length-i0<=c:=QSD (hi'.obs n _ hm) had h0;have hle:(j.map Int.toNat).getD len<=c:=by omega
 have hrun:=X1 (P:=P) true len c (lo.map a.eval) (hi.map a.eval) none i j none e1 e2 rfl (by simp) hc c1 c2 (by simp) c3 hle (zt _) w;have b1:(bds len c i j none).1=(i.map Int.toNat).getD 0:=rfl;have b2:(bds len c i j none).2.1=(j.map Int.toNat).getD len:=rfl;have b3:(bds len c i j none).2.2=c:=rfl;refine⟨.slice (if c=(i.map Int.toNat).getD 0 then ad else ad.map (·.add ((i.map Int.toNat).getD 0*ety.size))) ((j.map Int.toNat).getD len-(i.map Int.toNat).getD 0) (c-(i.map Int.toNat).getD 0),?_,.vx _ _ _ _ _ _ (by omega) ⟨λh=>?_,λh=>?_,λh=>?_⟩⟩
 ·simp only[execOp,hop,ha,Instr.sliceAt,zp,zq,zg,run_underlying ht.und,Instr.slice,qm,hrun,QV het.info,het.size,b1,b2,b3]
 ·rw [<-had.1 h];congr 1;omega
 ·have:=had.2.1 h;omega
 ·obtain ⟨q1,q2,q3⟩:=had.pos (by omega);rw[if_neg (by omega),q2];show some (Addr.add _ _)=_;rw[ZB,<-hsz,z2,<-wl]
theorem QAT{g:Gh}{a:Act}:∀ {l:List Operand} {args:List AV},Xy r l=some args->(∀x∈l,∀v,r x=some v->AVR g v (a.eval x))->args.length=l.length/\∀j (h:j<args.length) (h':j<l.length),AVR g args[j] (a.eval l[j])
 |[],args,h,_=>by obtain rfl:=za h;exact⟨rfl,λj h=>by cases h⟩
 |x::t,args,h,ho=>by
  simp only[Xy]at h;split at h
  ·rename_i v l h1 h2;obtain rfl:=za h;obtain⟨i1,i2⟩:=QAT (g:=g) (a:=a) h2 (λx hx=>ho x (zk _ hx));refine⟨by simp[i1],λj h h'=>?_⟩;cases j with
   |zero=>exact ho x zo v h1
   |succ j=>exact i2 j (by simpa using h) (by simpa using h')
  ·cases h
theorem QAn{l:List Operand}{args:List AV}(h:Xy r l=some args)(hv:v∈args):∃x∈l,r x=some v:=by
 induction l generalizing args with
 |nil=>obtain rfl:=za h;cases hv
 |cons x t ih=>
  simp only[Xy]at h;split at h
  ·rename_i u l h1 h2;obtain rfl:=za h;rcases zi.1 hv with rfl|hv
   ·exact ⟨x,zo,h1⟩
   ·obtain ⟨y,hy,e⟩:=ih h2 hv;exact⟨y,zk _ hy,e⟩
  ·cases h
theorem QKv(hf:v.flat=true)(h:v.lt m=true):v.lt0 m=true:=by
 cases v<;>first|exact h|cases hf
theorem QE8{fn:Fn}{first caps:Array Operand}{f:List AV}(hop:o.op= .makeFunc fn first caps)(hf:Xy r first.toList=some f)(hc:Xy r caps.toList=some c)(h1:f.all AV.flat=true)(h2:c.all AV.flat=true)
  (hlt:∀x v,r x=some v->v.lt nx=true):ZH P mem nx r o (.fn fn f c):=by
 rw[ze]at h1 h2;refine .of_run ?_ λκ g a w hi ho=>⟨.func fn (first.map a.eval) (caps.map a.eval),?_,?_⟩
 ·simp only[AV.lt,AV.lt2,AV.lt1,ze,zf];refine⟨λv hv=>?_,λv hv=>?_⟩
  ·obtain ⟨x,_,e⟩:=QAn hf hv;exact QKv (h1 v hv) (hlt x v e)
  ·obtain ⟨x,_,e⟩:=QAn hc hv;exact QKv (h2 v hv) (hlt x v e)
 ·simp only[execOp,hop,Instr.makeFunc,zp,zq,zg]
 ·obtain ⟨a1,a2⟩:=QAT (g:=g) (a:=a) hf (λx hx v hv=>ho x (by simp only[hop,Op.operands];simp at hx⊢;exact .inl hx) v hv);obtain⟨b1,b2⟩:=QAT (g:=g) (a:=a) hc (λx hx v hv=>ho x (by simp only[hop,Op.operands];simp at hx⊢;exact .inr hx) v hv);refine .fn _ _ _ _ _ (by simp[a1]) (by simp[b1]) (λj hj=>?_) λj hj=>?_
  ·have h':j<first.size:=by simpa using(a1▸hj:j<first.toList.length)
   have:=a2 j hj (by simpa using h');simpa [Array.getD,h']using this
  ·have h':j<caps.size:=by simpa using(b1▸hj:j<caps.toList.length)
   have:=b2 j hj (by simpa using h');simpa [Array.getD,h']using this
theorem Xa{tp te:TypeId}(w:World)(a:Option Addr)(hp:P.underlying tp=some (.pointer te)):(binOp .eql tp (.pointer a) (.pointer none)).run P w= .ok (.bool a.isNone) w:=by
 have h:∀d:Nat,(Op.equalIn (d+1) tp (.pointer a) (.pointer none)).run P w= .ok a.isNone w:=λd=>by
  cases a<;>simp[Op.equalIn,run_underlying hp]
 simp only[binOp];simp[Op.equal,Op.maxDepth,h 9999]
theorem QJg{tp:TypeId}{x y:Option Addr}(h:(binOp .eql tp (.pointer x) (.pointer y)).run P w= .ok (.bool b) w):(binOp .neq tp (.pointer x) (.pointer y)).run P w= .ok (.bool (!b)) w:=by
 simp only[binOp,zp]at h⊢;cases hq:(Op.equal tp (.pointer x) (.pointer y)).run P w with
 |ok v w'=>
  rw[hq]at h;simp only[zg,zq,ja,Value.bool.injEq]at h⊢;obtain⟨rfl,rfl⟩:=h;exact⟨rfl,rfl⟩
 |halt p w'=>rw[hq]at h;simp at h
theorem QGo{u:TypeDesc}{i:TypeInfo}{e:Nat}(ht:QCY P t ty u i)(hk:ty.kd= .ptr e):u= .pointer e:=by
 have hkd:=ht.kd;rw[hk]at hkd;cases u<;>simp only[XU]at hkd<;>first|(cases hkd;done)|skip
 cases hkd;rfl
theorem Xb{e:Nat}{u:AV}(hti:QU P ti)(hop:o.op= .binOp op t x y t')(ht:ti t=some ty)(hk:ty.kd= .ptr e)(hx:r x=some u)(hy:r y=some v)(ho:op= .eql\/op= .neq)
  (h:∀(g:Gh) (p q:Value) (w:World),AVR g u p->AVR g v q->P.underlying t=some (.pointer e)->∃a c,p= .pointer a/\q= .pointer c/\(binOp .eql t (.pointer a) (.pointer c)).run P w= .ok (.bool b) w):ZH P mem nx r o (.d (.bl (match op with| .neq=> !b|_=>b))):=by
 obtain⟨uu,i,ht⟩:=QE (hti _ _ ht);obtain rfl:=QGo ht hk;refine .of_run rfl λκ g a w hi hoo=>?_;obtain⟨p,q,e1,e2,e3⟩:=h g _ _ w (hoo x (by simp[hop,Op.operands]) _ hx) (hoo y (by simp[hop,Op.operands]) _ hy) ht.und;have eg:∀op,(eqGuard op t x y (.pointer p) (.pointer q)).run P w= .ok () w:=λop=>by cases op<;>rfl
 rcases ho with rfl|rfl
 ·exact ⟨_,by simp only[execOp,hop,e1,e2,zp,eg,zg,e3,zq],.d _ _ (.bl _)⟩
 ·exact ⟨_,by simp only[execOp,hop,e1,e2,zp,eg,zg,QJg e3,zq],.d _ _ (.bl _)⟩
theorem QAo{v:Value}(h:AVR g (.ptr n off) v):v= .pointer (some ⟨g.blk n,off,none⟩):=by cases h;rfl
theorem Xq{v:Value}(h:AVR g (.d (.ot (.pointer none))) v):v= .pointer none:=by cases h with|d _ _ h=>cases h;rfl
theorem QOC{v:Value}(h:AVR g (.d (.fp k cs)) v):∃a,v= .pointer (some a):=by cases h with|d _ _ h=>cases h;exact⟨_,rfl⟩
theorem QIG{a b e:Nat}{p q:Value}(hti:QU P ti)(hs:(Nat.beq n m&&Nat.beq a b&&(ti e).isSome)=true)(h1:AVR g (.ptr n a) p)(h2:AVR g (.ptr m b) q)(hu:P.underlying t=some (.pointer e)):
  ∃a c,p= .pointer a/\q= .pointer c/\(binOp .eql t (.pointer a) (.pointer c)).run P w= .ok (.bool true) w:=by
 simp only[zf]at hs;obtain⟨⟨hn,ha⟩,he⟩:=hs;obtain rfl:=zh hn;obtain rfl:=zh ha;obtain⟨ety,he⟩:=jy.1 he;obtain⟨_,i,hte⟩:=QE (hti _ _ he);exact⟨_,_,QAo h1,QAo h2,run_eql_ptr_same w _ hu hte.info⟩
theorem QFk{u:TypeDesc}{i:TypeInfo}(ht:QCY P t ty u i)(hk:ty.kd= .usafe):u= .unsafePointer:=by
 have hkd:=ht.kd;rw[hk]at hkd;cases u<;>simp only[XU]at hkd<;>first|(cases hkd;done)|rfl
theorem QIH{e cells:Nat}(hc:P.cellsOf e=s)(h0:0<s)(hle:s<=cells):liesAt P P.depth e (cells/P.cellsOf e) 0 e 1=true:=by
 have hd:P.depth=(2*(P.types.size+Made.depth)+1)+1:=rfl;rw[hd];simp only[liesAt,wj];left;rw[hd];have h1:1<=cells/s:=by rw[Nat.le_div_iff_mul_le h0];omega
 simp[rowAt,hc,sameLayout,show s≠0 by omega,h1]
theorem QE9{e:Nat}(hti:QU P ti)(hop:o.op= .convert s t x)(hs:ti s=some sty)(hsk:sty.kd= .ptr e)(ht:ti t=some ty)(hk:ty.kd= .usafe)(he:ti e=some ety)
  (hx:r x=some (.ptr n off)) (hm:look n mem=some (.cells size c)) (h0:0<ety.size) (hoff:off<size) (hl:n<nx):ZH P mem nx r o (.ptr n off):=by
 obtain⟨u,i,hs⟩:=QE (hti _ _ hs);obtain⟨u',i',ht⟩:=QE (hti _ _ ht);obtain⟨u'',i'',he⟩:=QE (hti _ _ he);obtain rfl:=QGo hs hsk;obtain rfl:=QFk ht hk;refine .of_run (QBR hl) λκ g a w hi ho=>?_;have h1:=QAo (ho x (by simp[hop,Op.operands]) _ hx);obtain⟨arr,T,e1,e2,_⟩:=hi.obs n _ hm;refine⟨_,?_,.ptr _ _⟩;have:=Lib.run_to_unsafe w (src:=s) (dst:=t) (t:=e) (e:=T) (j:=i'') (cells:=arr.size) ⟨g.blk n,off,none⟩ hs.und ht.und he.info (by rw[he.size];omega) (by simp[World.shape?,e1]) (by show off<arr.size;omega);simp only[execOp,hop,h1,zp,this,zg,zq]
theorem QFA{e:Nat}(hti:QU P ti)(hop:o.op= .convert s t x)(hs:ti s=some sty)(hsk:sty.kd= .usafe)(ht:ti t=some ty)(hk:ty.kd= .ptr e)(he:ti e=some ety)
  (hx:r x=some (.ptr n off)) (hm:look n mem=some (.cells size c)) (htag:look (n+1) mem=some (.tag m t')) (hb:(Nat.beq m n&&Nat.beq t' e&&(Nat.beq off 0&&Nat.ble ety.size size&&Nat.blt 0 ety.size))=true) (hl:n<nx):ZH P mem nx r o (.ptr n off):=by
 simp only[zf,yc]at hb;obtain⟨⟨b1,b2⟩,⟨b3,b4⟩,b5⟩:=hb;obtain rfl:=zh b1;obtain rfl:=zh b2;obtain rfl:=zh b3;have b4:=yg b4;obtain⟨u,i,hs⟩:=QE (hti _ _ hs);obtain⟨u',i',ht⟩:=QE (hti _ _ ht);obtain⟨u'',i'',he⟩:=QE (hti _ _ he);obtain rfl:=QFk hs hsk;obtain rfl:=QGo ht hk;refine .of_run (QBR hl) λκ g a w hi ho=>?_;have h1:=QAo (ho x (by simp[hop,Op.operands]) _ hx);obtain⟨arr,T,e1,e2,_⟩:=hi.obs m _ hm;obtain⟨arr',fz,e3⟩:=hi.obs _ _ htag;rw[e1]at e3;cases e3;refine⟨_,?_,.ptr _ _⟩;have hcell:P.cellsOf t'=ety.size:=by simp[Program.cellsOf,he.info,he.size]
 have:=Lib.run_from_unsafe w (src:=s) (dst:=t) (u:=t') (e:=t') (j:=i'') (cells:=arr.size) ⟨g.blk m,0,none⟩ hs.und ht.und he.info (by simp[World.shape?,e1]) (QIH hcell b5 (by omega));simp only[execOp,hop,h1,zp,this,zg,zq]
theorem QEa{ats:Array TypeId}(hop:o.op= .call ⟨.builtin .unsafeSliceData,#[x],ats⟩)(hx:r x=some (.ts 1 es n))(hm:look n mem=some (.tail t true))(hl:n<nx):ZH P mem nx r o (.sd es n):=by
 refine .of_run (by simp[AV.lt,AV.lt2,AV.lt1,AV.lt0,hl]) λκ g a w hi ho=>?_;have h1:=ho x (by simp[hop,Op.operands,Call.operands]) _ hx;have hob:=hi.obs n _ hm;generalize ha:a.eval x=q at h1;cases h1 with
 |ts0 _ _ _ ad len hl hd hh hz=>
  obtain⟨rfl,rfl⟩:=hz (hob.2 rfl hh);refine⟨.pointer none,?_,.sd _ _ _ λh=>(h rfl).elim⟩;rw[QQ hop];simp[builtin,ha,qu]
 |ts _ _ _ off len cap h0 hn hd hl hc h1 h2 hpos=>
  refine⟨.pointer (some ⟨g.blk n,off,none⟩),?_,.sd _ _ _ λ_=>⟨off,len,cap,rfl,hn,hd,hl,by omega⟩⟩;rw[QQ hop];have hc0:cap≠0:=by omega
  simp[builtin,ha,Lib.run_unsafeSliceData_row (hc:=hc0)]
theorem QBS{ats:Array TypeId}(hop:o.op= .call ⟨.builtin .unsafeSliceData,#[x],ats⟩)(hx:r x=some (.nl sz)):ZH P mem nx r o (.d (.ot (.pointer none))):=by
 refine .of_run rfl λκ g a w hi ho=>⟨.pointer none,?_,.d _ _ (.ot _ rfl)⟩;have h1:=ho x (by simp[hop,Op.operands,Call.operands]) _ hx;generalize ha:a.eval x=q at h1;cases h1;rw[QQ hop];simp[builtin,ha,qu]
theorem QGp(hti:QU P ti)(hlt:∀x v,r x=some v->v.lt nx=true)(h:QJf ti mem r o K=some p)(hp:p):∃v,K v/\ZH P mem nx r o v:=by
 unfold QJf at h;split at h
 ·rename_i t x i hop;split at h
  ·rename_i zz n off len cap hx;obtain rfl:=za h;split at hp
   ·rename_i e sz by' z cmp pl k j ht hi;split at hp
    ·rename_i ety he;exact⟨_,hp.2.run,QB4 hti hop (hti _ _ ht) rfl he hx hi hp.1 (QIC (hlt _ _ hx))⟩
    ·exact hp.elim
   ·exact hp.elim
  ·rename_i n off hx;obtain rfl:=za h;split at hp
   ·rename_i len e sz by' z cmp pl k j ht hi;split at hp
    ·rename_i ety he;exact⟨_,hp.2.run,QA3 hti hop (hti _ _ ht) rfl he hx hi hp.1 (QAm (hlt _ _ hx))⟩
    ·exact hp.elim
   ·exact hp.elim
  ·rename_i sz n i0 len hx;obtain rfl:=za h;split at hp
   ·rename_i e _ _ _ _ _ k j tt sz' es fl ht hi hm;split at hp
    ·rename_i ety he;obtain⟨hb,hK⟩:=Qf hp;simp only[zf]at hb;have hs:=zh hb.1;obtain rfl:=zh hb.2;exact⟨_,hK.2.run,QB5 hti hop (hti _ _ ht) rfl he hs hx hi hm hK.1 (QIE (hlt _ _ hx))⟩
    ·exact hp.elim
   ·exact hp.elim
  ·cases h
 ·rename_i t x f hop;split at h
  ·rename_i sz n k off hx;obtain rfl:=za h;split at hp
   ·rename_i fs _ _ _ _ _ ht;split at hp
    ·rename_i fo fsz hf;obtain⟨hb,hK⟩:=Qf hp;exact⟨_,hK,Yz hti hop (hti _ _ ht) rfl hf (by simpa using hb) hx (.inr (.inr ⟨_,_,_,_,rfl,rfl,QOB (hlt _ _ hx)⟩))⟩
    ·exact hp.elim
   ·exact hp.elim
  ·cases h
 ·rename_i t x hop;split at h
  ·rename_i sz n k off hx;obtain rfl:=za h;split at hp
   ·rename_i ty tt sz' es fl ht hm;obtain⟨hb,hK⟩:=Qf hp;simp only[zf,yc]at hb;obtain⟨⟨hb1,hb2⟩,hb3⟩:=hb;obtain rfl:=zh hb1;obtain⟨hk,hK⟩:=hK;exact⟨_,AtA.bif (hK _ (zj hk)),QGn hop (hti _ _ ht) hx hm (yg hb2) hb3 hk (zj hk)⟩
   ·exact hp.elim
  ·cases h
 ·rename_i t x lo hi hop;split at h
  ·rename_i zz n off len cap hx;obtain rfl:=za h;split at hp
   ·rename_i e sz by' z cmp pl i j ht h1 h2;split at hp
    ·rename_i ety he;exact QE6 hti hop (hti _ _ ht) rfl he hx h1 h2 (QIC (hlt _ _ hx)) hp.2 hp.1
    ·exact hp.elim
   ·exact hp.elim
  ·rename_i n off hx;obtain rfl:=za h;split at hp
   ·rename_i len e sz by' z cmp pl i j ht h1 h2;split at hp
    ·rename_i ety he;exact QDM hti hop (hti _ _ ht) rfl he hx h1 h2 (QAm (hlt _ _ hx)) hp
    ·exact hp.elim
   ·exact hp.elim
  ·rename_i sz n i len hx;obtain rfl:=za h;split at hp
   ·rename_i e _ _ _ _ _ i' j' tt sz' es fl ht h1 h2 hm;split at hp
    ·rename_i ety he;obtain⟨hb,hK⟩:=Qf hp;simp only[zf,yc]at hb;obtain⟨⟨hb1,hb2⟩,hb3⟩:=hb;have hb1:=zh hb1;obtain rfl:=zh hb2;exact QE7 hti hop (hti _ _ ht) rfl he hb1 hb3 hx hm h1 h2 (QIE (hlt _ _ hx)) hK
    ·exact hp.elim
   ·exact hp.elim
  ·cases h
 ·rename_i s t x hop;split at h
  ·rename_i zz n off len cap hx;obtain rfl:=za h;split at hp
   ·rename_i hs ht hm;split at hp
    ·rename_i he;obtain⟨l,⟨h1,h2⟩,hK⟩:=hp;exact⟨_,hK,QGm hti hop hs rfl ht rfl he rfl hx hm h1 h2⟩
    ·exact hp.elim
   ·exact hp.elim
  ·rename_i n off hx;obtain rfl:=za h;split at hp
   ·rename_i hs ht hm;split at hp
    ·rename_i ety he;obtain⟨hb,hK⟩:=Qf hp;simp only[zf,yc]at hb;exact⟨_,hK,QE9 hti hop hs rfl ht rfl he hx hm hb.1 hb.2 (QAm (hlt _ _ hx))⟩
    ·exact hp.elim
   ·rename_i hs ht hm;split at hp
    ·rename_i m t' ety htag he;obtain⟨hb,hK⟩:=Qf hp;exact⟨_,hK,QFA hti hop hs rfl ht rfl he hx hm htag hb (QAm (hlt _ _ hx))⟩
    ·exact hp.elim
   ·exact hp.elim
  ·cases h
 ·rename_i op t x y t' hop;have hlx:=hlt;split at h
  ·rename_i n a m b e sz by' z cmp pl hx hy ht;obtain rfl:=za h;obtain⟨hb,hK⟩:=Qf hp;exact⟨_,hK,Xb (b:=true) hti hop ht rfl hx hy (.inl rfl) λg p q w h1 h2 hu=>QIG hti hb h1 h2 hu⟩
  ·rename_i n a m b e sz by' z cmp pl hx hy ht;obtain rfl:=za h;obtain⟨hb,hK⟩:=Qf hp;exact⟨_,hK,Xb (b:=true) hti hop ht rfl hx hy (.inr rfl) λg p q w h1 h2 hu=>QIG hti hb h1 h2 hu⟩
  ·rename_i n a e sz by' z cmp pl hx hy ht;obtain rfl:=za h;exact⟨_,hp,Xb (b:=false) hti hop ht rfl hx hy (.inl rfl) λg p q w h1 h2 hu=>⟨_,_,QAo h1,Xq h2,Xa w _ hu⟩⟩
  ·rename_i n a e sz by' z cmp pl hx hy ht;obtain rfl:=za h;exact⟨_,hp,Xb (b:=false) hti hop ht rfl hx hy (.inr rfl) λg p q w h1 h2 hu=>⟨_,_,QAo h1,Xq h2,Xa w _ hu⟩⟩
  ·rename_i k cs e sz by' z cmp pl hx hy ht;obtain rfl:=za h;exact⟨_,hp,Xb (b:=false) hti hop ht rfl hx hy (.inl rfl) λg p q w h1 h2 hu=>by obtain⟨a,rfl⟩:=QOC h1;exact⟨_,_,rfl,Xq h2,Xa w _ hu⟩⟩
  ·rename_i k cs e sz by' z cmp pl hx hy ht;obtain rfl:=za h;exact⟨_,hp,Xb (b:=false) hti hop ht rfl hx hy (.inr rfl) λg p q w h1 h2 hu=>by obtain⟨a,rfl⟩:=QOC h1;exact⟨_,_,rfl,Xq h2,Xa w _ hu⟩⟩
  ·rename_i e sz by' z cmp pl hx hy ht;obtain rfl:=za h;exact⟨_,hp,Xb (b:=true) hti hop ht rfl hx hy (.inl rfl) λg p q w h1 h2 hu=>⟨_,_,Xq h1,Xq h2,Xa w _ hu⟩⟩
  ·rename_i e sz by' z cmp pl hx hy ht;obtain rfl:=za h;exact⟨_,hp,Xb (b:=true) hti hop ht rfl hx hy (.inr rfl) λg p q w h1 h2 hu=>⟨_,_,Xq h1,Xq h2,Xa w _ hu⟩⟩
  ·cases h
 ·rename_i args ats hop;split at h
  ·rename_i x ha;have hargs:args= #[x]:=by rw[<-vf (xs:=args),ha]
   subst hargs;split at h
   ·rename_i sz es n hx;obtain rfl:=za h;split at hp
    ·rename_i t b hm;obtain⟨hb,hK⟩:=Qf hp;simp only[zf]at hb;obtain⟨rfl,hb⟩:=hb;obtain rfl:=zh hb;exact⟨_,hK,QEa hop hx hm (by have:=hlt _ _ hx;simpa [AV.lt,AV.lt2,AV.lt1,AV.lt0]using this)⟩
    ·exact hp.elim
   ·rename_i sz hx;obtain rfl:=za h;exact⟨_,hp,QBS hop hx⟩
   ·cases h
  ·cases h
 ·rename_i fn first caps hop
  split at h
  ·rename_i f c hf hc;cases hb:(f.all AV.flat&&c.all AV.flat)with
   |false=>rw[hb]at h;cases h
   |true=>
    rw[hb]at h;obtain rfl:=za h;simp only[zf]at hb;exact⟨_,hp,QE8 hop hf hc hb.1 hb.2 hlt⟩
  ·cases h
 ·rename_i args ats hop;split at h
  ·rename_i x ha;have hargs:args= #[x]:=by rw[<-vf (xs:=args),ha]
   subst hargs;split at h
   ·rename_i zz n off len cap e sz by' z cmp pl hx ht;obtain rfl:=za h;obtain⟨t,h0,ht⟩:=wy.1 ht;exact⟨_,hp,QID hti hop ht rfl h0 hx⟩
   ·rename_i sz n i len e _ _ _ _ _ hx ht;obtain rfl:=za h;obtain⟨t,h0,ht⟩:=wy.1 ht;exact⟨_,hp,QIF hti hop ht rfl h0 hx⟩
   ·cases h
  ·cases h
 ·cases h
theorem QSE{u:TypeDesc}{i:TypeInfo}{e:Nat}(ht:QCY P t ty u i)(hk:ty.kd= .map k e):u= .map k e:=by
 have hkd:=ht.kd;rw[hk]at hkd;cases u<;>simp only[XU]at hkd<;>first|(cases hkd;done)|skip
 cases hkd;rfl
theorem QL2{kt:IntKind}{q:IntKind}{n:Int}(d:Nat)(hk:P.underlying k=some (.int kt)):(Instr.checkKey b (d+1) k (.int q n)).run P w= .ok () w:=by
 simp[Instr.checkKey,run_underlying hk]
theorem QII(hti:QU P ti)(h:QOA P ti r o K=some p)(hp:p):∃v,K v/\ZH P mem nx r o v:=by
 unfold QOA at h;split at h
 ·rename_i t x i hop;split at h
  ·rename_i kz n k e sz by' z cmp pl hx hi ht;obtain rfl:=za h;obtain⟨kk,zz,⟨kt,hkt⟩,hz,hK⟩:=hp.run;obtain⟨u,inf,ht⟩:=QE (hti _ _ ht);obtain rfl:=QSE ht rfl;refine⟨_,hK,.of_run rfl λκ g a w hinv hoo=>⟨.int kk zz,?_,.d _ _ (.it _ _)⟩⟩;have h1:=hoo x (by simp[hop,Op.operands]) _ hx;have h2:=hoo i (by simp[hop,Op.operands]) _ hi;generalize ha:a.eval x=q at h1;generalize hb:a.eval i=q2 at h2;cases h1 with|d _ _ h1=>?_
   cases h1 with|ot _ _=>?_
   cases h2 with|d _ _ h2=>?_
   cases h2 with|it _ _=>?_
   simp[execOp,hop,ha,hb,Instr.lookup,run_underlying ht.und,run_underlying hkt,QL2 9999 hkt,Instr.findKey,Instr.findNow,hz,Result.andThen]
  ·cases h
 ·cases h
theorem QKw{x:D}(hx:x.flat=true)(h:DR F x u):DR F' x u:=by
 cases h with
 |bl b=>exact .bl b
 |it k n=>exact .it k n
 |st l=>exact .st l
 |ot _ h=>exact .ot _ h
 |an _ h=>exact .an _ h
 |fs0=>cases hx
 |fs=>cases hx
 |fp=>cases hx
theorem QOD(hv:v.flatP=true)(h:AVR g v u):AVR g' v u:=by
 have one:∀ {v:AV} {u:Value},(match v with| .d x=>x.flat| .dg _ cs=>cs.all D.flat|_=>false)=true->AVR g v u->AVR g' v u:=fun{v u} hv h=>by
  cases h with
  |d x v h=>exact .d _ _ (QKw hv h)
  |dg k cs vs h1 h2 h=>
   have hv:cs.all D.flat=true:=hv;rw[ze]at hv;exact .dg _ _ _ h1 h2 λj hj=>QKw (hv _ (zm hj)) (h j hj)
  |_=>cases hv
 cases v with
 |tup vs=>
  cases h with
  |tup cs us h1 h=>
   have hv:(vs.all fun| .d x=>x.flat| .dg _ cs=>cs.all D.flat|_=>false)=true:=hv;rw[ze]at hv;refine .tup _ _ h1 λj hj=>one ?_ (h j hj);have:=hv _ (zm hj);generalize vs[j]=q at this⊢;cases q<;>first|exact this|cases this
 |d x=>exact one hv h
 |dg k cs=>exact one hv h
 |_=>cases hv
theorem QFl:∀ {l:List Operand} {vs:List AV},Xy r l=some vs->vs.length=l.length/\∀j (h:j<vs.length) (h':j<l.length),r l[j]=some vs[j]
 |[],vs,h=>by
  obtain rfl:=za h;exact⟨rfl,λj h=>by cases h⟩
 |x::t,vs,h=>by
  simp only[Xy]at h;split at h
  ·rename_i v l hv hl;obtain rfl:=za h;obtain⟨h1,h2⟩:=QFl hl;refine⟨by simp[h1],λj hj hj'=>?_⟩;cases j with
   |zero=>exact hv
   |succ j=>exact h2 j (by simpa using hj) (by simpa using hj')
  ·cases h
theorem QQL(hi:Inv κ g mem w){u:AV}{x:Value}(h:QQJ mem u v)(hx:AVR g u x):AVR {g with F:=λb o=>w.cell? ⟨b,o,none⟩} v x:=by
 have hF:∀b o v,g.F b o=some v->w.cell? ⟨b,o,none⟩=some v:=hi.frz;unfold QQJ at h;split at h
 ·rename_i n off k ds;obtain⟨size,c,hm,hle,hlen,hds⟩:=h;obtain⟨arr,T,e1,e2,e3,e4,e5,e6⟩:=hi.obs n _ hm;cases hx;refine .d _ _ (.fp _ _ _ _ (λj=>arr.getD (off+j) undef) hlen (λj hj=>?_) λj hj=>?_)
  ·have:off+j<arr.size:=by omega
   simp[World.cell?,e1,Array.getD,this]
  ·obtain ⟨f1,f2⟩:=QAh (g:=g) hds;refine(f2 (λj=>arr.getD (off+j) undef) (λi hi'=>?_) j hj).mono hF;have hi2:i<k/\off+i<c.length:=by
    rw[zy,ym]at hi';omega
   have e:((c.drop off).take k)[i]=c[off+i]:=by rw[xl,xm]
   rw[e];exact e5 _ hi2.2
 ·have h2:=Jf h hx;rcases QAi h with⟨y,rfl⟩|⟨k,cs,rfl⟩
  ·exact Zw hF rfl h2
  ·exact Zw hF rfl h2
theorem QIJ:∀ {l l':List AV},QKs mem l l'->l'.length=l.length/\∀j (h:j<l.length) (h':j<l'.length),QQJ mem l[j] l'[j]
 |[],[],_=>⟨rfl,λj h=>by cases h⟩
 |u::l,v::l',h=>by
  obtain⟨h1,h2⟩:=QIJ h.2;refine⟨by simp[h1],λj hj hj'=>?_⟩;cases j with
  |zero=>exact h.1
  |succ j=>exact h2 j (by simpa using hj) (by simpa using hj')
 |[],_::_,h=>h.elim
 |_::_,[],h=>h.elim
def QKx(mem:List (Nat×Ob))(l l':List AV):Prop:=l'.length=l.length/\∀ {κ:Ctx} {g:Gh} {w:World},Inv κ g mem w->∀j (h:j<l.length) (h':j<l'.length) (x:Value),AVR g l[j] x->AVR {g with F:=λb o=>w.cell? ⟨b,o,none⟩} l'[j] x
theorem frA_ok(hi:Inv κ g mem w){ds:List D}(h:FrA mem l ds):ds.length=l.length/\∀(f:Nat->Value),(∀j (h:j<l.length),AVR g l[j] (f j))->∀j (h:j<ds.length),DR (λb o=>w.cell? ⟨b,o,none⟩) ds[j] (f j):=by
 have hF:∀b o v,g.F b o=some v->w.cell? ⟨b,o,none⟩=some v:=hi.frz;have step:∀ {v:AV} {x:D} {t:List AV} {l:List D},(∀u,AVR g v u->DR (λb o=>w.cell? ⟨b,o,none⟩) x u)->(l.length=t.length/\∀(f:Nat->Value),(∀j (h:j<t.length),AVR g t[j] (f j))->∀j (h:j<l.length),DR (λb o=>w.cell? ⟨b,o,none⟩) l[j] (f j))->
   ((x::l).length=(v::t).length/\∀(f:Nat->Value),(∀j (h:j<(v::t).length),AVR g (v::t)[j] (f j))->∀j (h:j<(x::l).length),DR (λb o=>w.cell? ⟨b,o,none⟩) (x::l)[j] (f j)):=by
  intro v x t l hx ⟨h1,h2⟩;refine⟨by simp[h1],λf hf j hj=>?_⟩;cases j with
  |zero=>exact hx _ (hf 0 (by simp))
  |succ j=>exact h2 (λj=>f (j+1)) (λj hj=>hf (j+1) (by simpa using hj)) j (by simpa using hj)
 induction h with
 |nil=>exact⟨rfl,λ_ _ j hj=>by cases hj⟩
 |pl v x t l h k ih=>
  refine step (λu hu=>?_) ih;obtain⟨_,f2⟩:=QAh (g:=g) h;exact(f2 (λ_=>u) (λi hi'=>by
   have:i=0:=by simp at hi';omega
   subst this;exact hu) 0 (by simp)).mono hF
 |vx sz n len ty es f t l h hl k ih=>
  refine step (λu hu=>?_) ih;cases hu with|vx _ _ _ _ ad c hc had=>?_
  by_cases h0:len=0
  ·subst h0;obtain rfl:=yx.1 hl;exact .fs0 _ _ _
  ·obtain ⟨q1,q2,q3⟩:=had.pos (by omega);subst q2;obtain⟨v1,v2,v3⟩:=hi.obs n _ h;obtain⟨arr,w1,w2,w3,w4,w5,w6,w7⟩:=v3 q1;have e0:g.hi n+0*sz=g.hi n:=by omega
   rw[e0];refine .fs _ _ _ _ _ _ (λi j=>arr.getD (g.hi n+i*sz+j) undef) hl hc (λi hi=>v1 _ (zm hi)) (λi j hi' hj=>?_) λi hi' j hj=>(w4 i hi' j hj).mono hF;have hm1:i*sz+sz<=len*sz:=by
    have:(i+1)*sz<=len*sz:=zw _ (by omega);rw[z2]at this;omega
   rw[hl]at w3;have:g.hi n+i*sz+j<arr.size:=by omega
   simp[World.cell?,w1,Array.getD,this]
 |fp n off k size c ds t l h hle hlen hd ht ihd iht=>
  refine step (λu hu=>?_) iht;obtain⟨arr,T,e1,e2,e3,e4,e5,e6⟩:=hi.obs n _ h;cases hu;refine .fp _ _ _ _ (λj=>arr.getD (off+j) undef) hlen (λj hj=>?_) λj hj=>?_
  ·have:off+j<arr.size:=by omega
   simp[World.cell?,e1,Array.getD,this]
  ·refine ihd.2 (λj=>arr.getD (off+j) undef) (λi hi'=>?_) j hj;have hi2:i<k/\off+i<c.length:=by
    rw[zy,ym]at hi';omega
   have e:((c.drop off).take k)[i]=c[off+i]:=by rw[xl,xm]
   rw[e];exact e5 _ hi2.2
theorem QGq:∀ {l l':List AV},ArF mem l l'->QKx mem l l'
 |[],[],_=>⟨rfl,λ_ j h=>by cases h⟩
 |u::l,_,.pl _ v _ l' h k=>by
  obtain⟨h1,h2⟩:=QGq k;refine⟨by simp[h1],λhi j hj hj' x hx=>?_⟩;cases j with
  |zero=>
   have h2:=Jf h hx;rcases QAi h with⟨y,rfl⟩|⟨k,cs,rfl⟩
   ·exact Zw hi.frz rfl h2
   ·exact Zw hi.frz rfl h2
  |succ j=>exact h2 hi j (by simpa using hj) (by simpa using hj') x hx
 |u::l,_,.fr _ y _ l' h k=>by
  obtain⟨h1,h2⟩:=QGq k;refine⟨by simp[h1],λhi j hj hj' x hx=>?_⟩;cases j with
  |zero=>
   exact .d _ _ ((frA_ok hi h).2 (λ_=>x) (λi hi'=>by
    have:i=0:=by simp at hi';omega
    subst this;exact hx) 0 (by simp))
  |succ j=>exact h2 hi j (by simpa using hj) (by simpa using hj') x hx
theorem QOE(h:QKs mem l l'):QKx mem l l':=by
 obtain⟨q1,q2⟩:=QIJ h;exact⟨q1,λhi j hj hj' x hx=>QQL hi (q2 j hj hj') hx⟩
theorem Jj.out(h:Jj P mem f l K):∃l' r,QKx mem l l'/\FnC P f l' r/\r.flatP=true/\K r:=by
 rcases h with⟨l',r,h1,h2⟩|⟨l',r,h1,h2⟩
 ·exact ⟨l',r,QOE h1,h2⟩
 ·exact ⟨l',r,QGq h1,h2⟩
theorem QFm{rv:AV}(hi:Inv κ g mem w)(hmem:∀n ob,look n mem=some ob->n<nx/\ob.lt nx=true)(hl:QKx mem l l')(hf:FnC P f l' rv)(hfl:rv.flatP=true)(hsz:vs.size=l.length)(hav:∀j (h:j<l.length),AVR g l[j] (vs.getD j undef)):
  QQD P f vs w λe w'=>∃v,e= .returned v/\AVR g rv v/\Inv κ g mem w':=by
 obtain⟨q1,q2⟩:=hl;have fin:∀e w',(∃v g1,e=Ending.returned v/\AVR g1 rv v/\(∀b o v,w.cell? ⟨b,o,none⟩=some v->g1.F b o=some v)/\
   (∀b o v,g1.F b o=some v->w.cell? ⟨b,o,none⟩=some v\/w.heap.size<=b)/\(∀b o v,g1.F b o=some v->w'.cell? ⟨b,o,none⟩=some v)/\
   w.heap.size<=w'.heap.size/\(∀b,b<w.heap.size->w'.heap[b]? =w.heap[b]?)/\w'.os=w.os/\w'.tape=w.tape/\w'.output=w.output)->∃v,e= .returned v/\AVR g rv v/\Inv κ g mem w':=by
  rintro e w' ⟨v,g1,rfl,k1,k2,k3,k4,k5,k6,k7,k8,k9⟩;exact⟨v,rfl,QOD hfl k1,hi.grow hmem (.refl _ _) k5 k6 (λb o v h=> .inl h) (λb o v h=>k4 _ _ _ (k2 _ _ _ (hi.frz b o v h))) k7 k8 k9⟩
 rcases hf.run {g with F:=λb o=>w.cell? ⟨b,o,none⟩} w vs (λ_ _ _ h=>h) (κ.gl.mono λb o v h=>hi.frz _ _ _ (hi.f0 _ _ _ h)) (by omega) (λj hj=>q2 hi j (by omega) hj _ (hav j (by omega)))with⟨hrun,hc⟩|⟨v',w',hrun,hc⟩
 ·exact .inl ⟨hrun,hc.mono λe w' he=>fin e w' he⟩
 ·exact .inr ⟨v',w',hrun,fin _ _ hc⟩
theorem QL3(hmem:∀n ob,look n mem=some ob->n<nx/\ob.lt nx=true)(h:evR P mem r o K=some p)(hp:p):∃v,K v/\ZH P mem nx r o v:=by
 unfold evR at h;split at h
 ·rename_i f args ats hop;split at h
  ·cases h
  ·split at h
   ·rename_i l hl;obtain rfl:=za h;obtain⟨l',rv,hR,hf,hfl,hK⟩:=hp.out;refine⟨rv,hK,QAN hf.isP nx,λκ g a w hi ho next Q hn=>?_⟩;obtain⟨a1,a2⟩:=QFl hl;have hexec:(execOp a.eval o).run P w=(callFunc f (args.map a.eval)).run P w:=by
     simp only[execOp,hop,resolve,Act.eval,Deferred.ofValue,pure_bind,invoke];simp
    rcases QFm (vs:=args.map a.eval) hi hmem hR hf hfl (by simp[a1]) (λj hj=>by
      have h':j<args.size:=by have:=a1;simp at this;omega
      have hx:=ho args[j] (by simp only[hop,Op.operands,Call.operands];simp) l[j] (a2 j hj (by simpa using h'));simpa [Array.getD,h']using hx)with⟨hrun,hc⟩|⟨v',w',hrun,hc⟩
    ·refine YL (hexec.trans hrun) (hc.mono λe w' ⟨v,h1,h2,h3⟩=>⟨v,h1,hn g v w' (.refl _ _) h3 h2⟩)
    ·obtain ⟨v,h1,h2,h3⟩:=hc;obtain rfl:v'=v:=by injection h1
     exact Qc (hexec.trans hrun) (hn g v' w' (.refl _ _) h3 h2)
   ·cases h
 ·cases h
theorem QIK:∀ {sz:Nat} {es:List (List D)} (hs:∀x∈es,x.length=sz) {i j:Nat} (hi:i<es.length) (hj:j<es[i].length),es.flatten[i*sz+j]? =some es[i][j]
 |sz,x::es,hs,0,j,_,hj=>by
  have hj':j<x.length:=hj;rw[vy,kr,y5,ko hj'];exact zj hj'
 |sz,x::es,hs,i+1,j,hi,hj=>by
  have hx:=hs x zo;rw[vy,um (by rw[hx,z2];omega),hx,show(i+1)*sz+j-sz=i*sz+j by rw[z2];omega];exact QIK (λy hy=>hs y (zk _ hy)) (by simpa using hi) hj
theorem QSF{len:Nat}{v:Value}(h:DR F (.fp k cs) v)(h1:es.length=len)(h2:∀x∈es,x.length=sz)(h3:es.flatten=cs.take (len*sz))(hk:len*sz<=k):
  ∃b off,v= .pointer (some ⟨b,off,none⟩)/\DR F (.fs sz es) (.slice (some ⟨b,off,none⟩) len len):=by
 cases h with
 |fp _ _ b off vs hl hF hr=>
  refine⟨b,off,rfl,.fs sz es b off len len (λi j=>vs (i*sz+j)) h1 (zt _) (λi hi=>h2 _ (zm hi)) (λi j hi hj=>?_) λi hi j hj=>?_⟩
  ·have:i*sz+sz<=len*sz:=by rw[<-Nat.succ_mul];exact zw sz hi
   rw[<-hF (i*sz+j) (by omega),wl]
  ·have hj':j<sz:=by rw[h2 _ (zm hi)]at hj;exact hj
   have:i*sz+sz<=len*sz:=by rw[<-Nat.succ_mul];exact zw sz (by omega)
   have hlt:i*sz+j<cs.length:=by omega
   have e:=QIK h2 hi hj;rw[h3,wb,if_pos (by omega),zj hlt]at e;rw[<-za e];exact hr _ hlt
theorem QQM{lo hi:Option Int}(h:QSB sz es lo hi K):(∀x,lo=some x->0<=x)/\(∀x,hi=some x->0<=x)/\(bds es.length es.length lo hi none).1<=(bds es.length es.length lo hi none).2.1/\(bds es.length es.length lo hi none).2.1<=es.length/\
  K (.d (.fs sz ((es.take (bds es.length es.length lo hi none).2.1).drop (bds es.length es.length lo hi none).1))):=by
 cases lo with
 |none=>
  cases hi with
  |none=>exact⟨(λ_ h=>by cases h),(λ_ h=>by cases h),z7 _,zt _,by simpa [bds,QSB]using h⟩
  |some j=>
   obtain⟨h1,h⟩:=h;exact⟨(λ_ h=>by cases h),(λx h=>by cases h;exact h1.1),z7 _,(by simp[bds];omega),by simpa [bds]using h.out⟩
 |some i=>
  cases hi with
  |none=>
   obtain⟨h1,h⟩:=h;exact⟨(λx h=>by cases h;exact h1.1),(λ_ h=>by cases h),(by simp[bds];omega),(by simp[bds]),by simpa [bds]using h.out⟩
  |some j=>
   obtain⟨h1,h⟩:=h;exact⟨(λx h=>by cases h;exact h1.1),(λx h=>by cases h;omega),(by simp[bds];omega),(by simp[bds];omega),by simpa [bds]using h.out⟩
theorem QFB{e len:Nat}{i:Option Int}(hti:QU P ti)(hop:o.op= .slice t x lo hi none)(ht:YZ P t=some ty)(hk:ty.kd= .arr len e)(he:ti e=some ety)
  (hx:r x=some (.d (.fp k cs))) (h1:J7 r lo=some i) (h2:J7 r hi=some j) (hle:len*ety.size<=k) (hs:SlF ety.size len cs i j K):∃v,K v/\ZH P mem nx r o v:=by
 obtain⟨u,inf,ht⟩:=QE ht;obtain⟨ue,ie,het⟩:=QE (hti _ _ he);obtain rfl:=QAO ht hk;obtain⟨es,⟨q1,q2,q3⟩,hs⟩:=hs.run;obtain⟨c1,c2,c3,c4,hK⟩:=QQM hs;subst q1;refine⟨_,hK,.of_run rfl λκ g a w hi' ho=>?_⟩;have e1:=JR (o:=o) (g:=g) (a:=a) h1 (λy hy=>by subst hy;simp[hop,Op.operands]) ho;have e2:=JR (o:=o) (g:=g) (a:=a) h2 (λy hy=>by subst hy;simp[hop,Op.operands]) ho;have hxv:=ho x (by simp[hop,Op.operands]) _ hx;generalize ha:a.eval x=q at hxv;cases hxv with|d _ _ hxv=>?_
 obtain⟨b,off,rfl,hd⟩:=QSF hxv rfl q2 q3 hle;have hrun:=X1 (P:=P) false es.length es.length (lo.map a.eval) (hi.map a.eval) none i j none e1 e2 rfl (by simp) (zt _) c1 c2 (by simp) c3 c4 (zt _) w;have hd:=hd.sub (m:=es.length) c3 c4 c4;refine⟨_,?_,.d _ _ hd⟩;have e3:(bds es.length es.length i j none).2.2=es.length:=rfl;simp only[execOp,hop,ha,Instr.sliceAt,Instr.sureAddr,zp,zq,zg,run_underlying ht.und,qm,hrun,QV het.info,het.size,e3];congr 2;split<;>rfl
theorem QJh(hti:QU P ti)(h:QSC ti r o K=some p)(hp:p):∃v,K v/\ZH P mem nx r o v:=by
 unfold QSC at h;split at h
 ·rename_i t x lo hi hop;split at h
  ·rename_i k cs len e _ _ _ _ _ i j hx ht h1 h2;obtain rfl:=za h;split at hp
   ·rename_i ety he;obtain⟨hb,hK⟩:=Qf hp;exact QFB hti hop (hti _ _ ht) rfl he hx h1 h2 (yg hb) hK
   ·exact hp.elim
  ·cases h
 ·cases h
theorem QFn(hti:QU P ti)(hlt:∀x v,r x=some v->v.lt nx=true)(hmem:∀n ob,look n mem=some ob->n<nx/\ob.lt nx=true)(h:evV P ti mem r o K):∃v,K v/\ZH P mem nx r o v:=by
 unfold evV at h;split at h
 ·rename_i p hp;exact QGp hti hlt hp h
 ·split at h
  ·rename_i p hp;exact QII hti hp h
  ·split at h
   ·rename_i p hp;exact QL3 hmem hp h
   ·split at h
    ·rename_i p hp;exact QJh hti hp h
    ·exact QIB hti hlt hmem h
end
end Go.Sy
