/- Contracts of the functions that the law reaches, and the law. Conditions: none. -/
import Derived.Test.YtikgcbioagmkkaaGreatDoorCKA
import Derived.Test.YtikgcbioagmkkaaGreatDoorCSC
import Derived.Lib.RowBridge
set_option maxRecDepth 100000
set_option linter.all false
set_option maxHeartbeats 16000000
namespace Go.Proofs.YtikgcbioagmkkaaGreatDoor
open Go.Sy
structure Ino where
 k:Int
 z:Int
 b0:Int
 b1:Int
 b2:Int
 b3:Int
deriving DecidableEq
def ZM(x:Ino):List D:=[.it .i64 x.k,.it .i64 x.z,.it .i64 x.b0,.it .i64 x.b1,.it .i64 x.b2,.it .i64 x.b3]
def RI(x:Ino):Prop:=(x.k=0\/x.k=2)/\x.z=0/\x.b0=0/\x.b1=0/\x.b2=0/\x.b3=0\/
 x.k=1/\0<=x.z/\x.z<=128/\(0<x.z->1<=x.b0/\x.b0<=24)/\(x.z<=0->x.b0=0)/\(32<x.z->1<=x.b1/\x.b1<=24/\x.b1≠x.b0)/\(x.z<=32->x.b1=0)/\
 (64<x.z->1<=x.b2/\x.b2<=24/\x.b2≠x.b0/\x.b2≠x.b1)/\(x.z<=64->x.b2=0)/\(96<x.z->1<=x.b3/\x.b3<=24/\x.b3≠x.b0/\x.b3≠x.b1/\x.b3≠x.b2)/\(x.z<=96->x.b3=0)
instance(x:Ino):Decidable (RI x):=by unfold RI;infer_instance
theorem QBC(z:Int)(h0:0<=z)(h1:z<=128):FnC Tryz.prog 255 [.d (.it .i64 z)] (.d (.it .i64 ((z+31)/32))):=by
 refine QK QUQ ?_;(repeat' (conv=>whnf);first|refine QC ?_|intro x hx hu|intro h|apply sS);all_goals exact QM om
variable {p:Prop}
theorem QJk{e:Bool} [Decidable p](h:e=true↔p):AV.d (.bl e)=AV.d (.bl (decide p)):=by
 have:e=decide p:=by rw[wj,h,decide_eq_true_eq]
 rw[this]
theorem YX [Decidable p](h:¬p):AV.d (.bl false)=AV.d (.bl (decide p)):=by rw[decide_eq_false h]
theorem QML [Decidable p](h:p):AV.d (.bl true)=AV.d (.bl (decide p)):=by rw[decide_eq_true h]
theorem QBr{q:Prop} [Decidable p] [Decidable q](h:p↔q):AV.d (.bl (decide p))=AV.d (.bl (decide q)):=by
 have:decide p=decide q:=by rw[wj,decide_eq_true_eq,decide_eq_true_eq,h]
 rw[this]
theorem QSi{a b:Bool}{v:AV}(h:a=b)(h2:AV.d (.bl b)=v):AV.d (.bl a)=v:=by rw[h,h2]
def QSj(n:Nat):Int:=if n=0 then 0 else if n=1 then 1 else if n<4 then 2 else 3
theorem QMM(n:Nat)(hn:n<=4):FnC Tryz.prog 252 [.d (.it .u64 n)] (.d (.it .i64 (QSj n))):=by
 refine QK QUO ?_
 match n,hn with
 |0,_=>
  (repeat' (conv=>whnf);first|refine QCF (x:=(0:UInt8)) dkk dkk ?_|with_reducible refine Qc.eq 0 wu ?_|refine QC ?_|intro x hx hu|intro h|apply sS)
  with_unfolding_all exact rfl
 |1,_=>
  (repeat' (conv=>whnf);first|refine QCF (x:=(1:UInt8)) dkk dkk ?_|with_reducible refine Qc.eq 1 wu ?_|refine QC ?_|intro x hx hu|intro h|apply sS)
  with_unfolding_all exact rfl
 |2,_=>
  (repeat' (conv=>whnf);first|refine QCF (x:=(2:UInt8)) dkk dkk ?_|with_reducible refine Qc.eq 2 wu ?_|refine QC ?_|intro x hx hu|intro h|apply sS)
  with_unfolding_all exact rfl
 |3,_=>
  (repeat' (conv=>whnf);first|refine QCF (x:=(2:UInt8)) dkk dkk ?_|with_reducible refine Qc.eq 2 wu ?_|refine QC ?_|intro x hx hu|intro h|apply sS)
  with_unfolding_all exact rfl
 |4,_=>
  (repeat' (conv=>whnf);first|refine QCF (x:=(3:UInt8)) dkk dkk ?_|with_reducible refine Qc.eq 3 wu ?_|refine QC ?_|intro x hx hu|intro h|apply sS)
  with_unfolding_all exact rfl
theorem QQn(n:Nat)(hn:n<=4):FnC Tryz.prog 223 [.d (.it .u64 n)] (.d (.it .i64 (QSj n))):=by
 refine QK QUJ ?_;have h:=QMM n hn;(repeat' (conv=>whnf);first|refine cXk h ?_|refine QC ?_|intro x hx hu|intro h|apply sS);rfl
def YB(l:List Int):List Int:=l.mergeSort λx y=>decide (x<=y)
def vI(l:List Int):List (List D):=l.map λz=>[.it .i64 z]
theorem QBD(t:Nat)(fl:Bool)(zs:List Int)(h0:0<zs.length)(hsz:zs.length<4611686018427387904):FnM Tryz.prog 259 true [.vx 1 0 0 zs.length] (.vec t 1 (vI zs) fl) (.vec t 1 (vI (YB zs)) fl) (.tup []):=
 FnM.ofRow (Value.int .i64) (λz=> .it .i64 z) (λF x=> .it _ _) (λF x v h=>by cases h;rfl) (m:=none) (km _) h0 (λq h=>by cases h) Tryz.call259 (λblk off cap w hH hb hc=>(Tryz.slices_Sort_int blk off cap zs w hH hb hsz).mono λe w' h=>h)
theorem Y3(t:Nat)(fl:Bool)(n:Nat)(zs:List Int)(hn:zs.length=n)(h0:0<n)(hsz:n<4611686018427387904):FnM Tryz.prog 260 true [.vx 1 0 0 n] (.vec t 1 (vI zs) fl) (.vec t 1 (vI (Lib.compact zs++List.replicate (zs.length-(Lib.compact zs).length) 0)) fl) (.vx 1 0 0 (Lib.compact zs).length):=by
 subst hn;exact FnM.ofRow (Value.int .i64) (λz=> .it .i64 z) (λF x=> .it _ _) (λF x v h=>by cases h;rfl) (m:=some (Lib.compact zs).length) (by have:=Lib.compact_length_le zs;simp;omega) h0 (λq h=>by cases h;exact Lib.compact_length_le zs) Tryz.call260 (λblk off cap w hH hb hc=>(Tryz.slices_Compact_int blk off cap zs w hH om hc).mono λe w' ⟨h1,q,h2⟩=>⟨h1,q,#[],by rw[Go.Sort.grow_empty];exact h2⟩)
theorem QGc{α:Type}{p:α->Prop}(h:∃x,p x):∃x,p x:=h
theorem _root_.Go.Sy.CallE.id{A B:Prop}(h:CallE A B):CallE A B:=h
theorem _root_.Go.Sy.CallI.id{P:Program}{N:Nat}{o:Oper}{σ:S}{f:Nat}{l:List AV}{K:S->Prop}(h:CallI P N o σ f l K):CallI P N o σ f l K:=h
def riT:Tr:=(.cons 0 (.cons 1 (.cons 2 (.cons 3 (.cons 4 (.cons 5 (.cons 6 .nil .nil) .nil) .nil) .nil) .nil) (.cons 2 (.cons 1 (.cons 3 (.cons 4 (.cons 5 (.cons 6 .nil .nil) .nil) .nil) .nil) (.cons 3 (.cons 1 (.cons 4 (.cons 5 (.cons 6 .nil .nil) .nil) .nil) (.cons 4 (.cons 1 (.cons 5 (.cons 6 .nil .nil) .nil) .nil) .nil)) .nil)) .nil)) (.cons 2 (.cons 0 (.cons 1 (.cons 3 (.cons 4 (.cons 5 (.cons 6 .nil .nil) .nil) .nil) .nil) (.cons 3 (.cons 1 (.cons 4 (.cons 5 (.cons 6 .nil .nil) .nil) .nil) (.cons 4 (.cons 1 (.cons 5 (.cons 6 .nil .nil) .nil) .nil) .nil)) .nil)) (.cons 3 (.cons 0 (.cons 1 (.cons 4 (.cons 5 (.cons 6 .nil .nil) .nil) .nil) (.cons 4 (.cons 1 (.cons 5 (.cons 6 .nil .nil) .nil) .nil) .nil)) .nil) .nil)) .nil))
theorem ri1(x:Ino)(hk:x.k=1)(h1:0<=x.z)(h2:x.z<=128)(hz:(x.z+31)/32=1)(hd:((Lib.compact (YB [x.b0])).length=1↔[x.b0].Nodup)):FnC Tryz.prog 225 [.dg 6 (ZM x)] (.d (.bl (decide (RI x)))):=by
 refine QK QK3 ?_;have hn:=QBC x.z h1 h2;rw[hz]at hn;(repeat' (conv=>whnf);first|((with_reducible refine QGc ?_);refine⟨[[.it .i64 x.b0]],⟨by decide+kernel,rfl,by simp,rfl,by decide+kernel⟩,QBe.vec ⟨by with_unfolding_all exact rfl,?_⟩⟩)|with_reducible refine X3 QE mixed [0] riT dkk ?_|with_reducible exact trivial|with_reducible refine Br.mk ?_ ?_|refine cEk hn ?_|refine cI QL2 ?_|refine cI QL4 ?_|refine cI QL6 ?_|refine cI QL3 ?_|refine cI QL5 ?_|refine CallI.byM (QBD _ _ [x.b0] (bll rfl) (bll rfl)) wu rfl ?_|refine CallI.byM (Y3 _ _ 1 (YB [x.b0]) (by simp[YB]) (bll rfl) (bll rfl)) wu rfl ?_|with_reducible refine Q0.unroll QE 5 ?_|refine gOI ?_|intro x hx hu|intro h|apply sS);all_goals try exact YX (by unfold RI;omega)
 all_goals (conv=>whnf)
 all_goals refine QBr (W9 (show _↔_ by omega) (hd.trans ?_))
 all_goals (unfold RI;simp only[vi,zj,yz,wy,not_or,or_false,false_or,not_false_eq_true,and_true,true_iff,wy,true_and];omega)
theorem ri2(x:Ino)(hk:x.k=1)(h1:0<=x.z)(h2:x.z<=128)(hz:(x.z+31)/32=2)(hd:((Lib.compact (YB [x.b0,x.b1])).length=2↔[x.b0,x.b1].Nodup)):FnC Tryz.prog 225 [.dg 6 (ZM x)] (.d (.bl (decide (RI x)))):=by
 refine QK QK3 ?_;have hn:=QBC x.z h1 h2;rw[hz]at hn;(repeat' (conv=>whnf);first|((with_reducible refine QGc ?_);refine⟨[[.it .i64 x.b0],[.it .i64 x.b1]],⟨by decide+kernel,rfl,by simp,rfl,by decide+kernel⟩,QBe.vec ⟨by with_unfolding_all exact rfl,?_⟩⟩)|with_reducible refine X3 QE mixed [0] riT dkk ?_|with_reducible exact trivial|with_reducible refine Br.mk ?_ ?_|refine cEk hn ?_|refine cI QL2 ?_|refine cI QL4 ?_|refine cI QL6 ?_|refine cI QL3 ?_|refine cI QL5 ?_|refine CallI.byM (QBD _ _ [x.b0,x.b1] (bll rfl) (bll rfl)) wu rfl ?_|refine CallI.byM (Y3 _ _ 2 (YB [x.b0,x.b1]) (by simp[YB]) (bll rfl) (bll rfl)) wu rfl ?_|with_reducible refine Q0.unroll QE 5 ?_|refine gOI ?_|intro x hx hu|intro h|apply sS);all_goals try exact YX (by unfold RI;omega)
 all_goals (conv=>whnf)
 all_goals refine QBr (W9 (show _↔_ by omega) (hd.trans ?_))
 all_goals (unfold RI;simp only[vi,zj,yz,wy,not_or,or_false,false_or,not_false_eq_true,and_true,true_iff,wy,true_and];omega)
theorem ri3(x:Ino)(hk:x.k=1)(h1:0<=x.z)(h2:x.z<=128)(hz:(x.z+31)/32=3)(hd:((Lib.compact (YB [x.b0,x.b1,x.b2])).length=3↔[x.b0,x.b1,x.b2].Nodup)):FnC Tryz.prog 225 [.dg 6 (ZM x)] (.d (.bl (decide (RI x)))):=by
 refine QK QK3 ?_;have hn:=QBC x.z h1 h2;rw[hz]at hn;(repeat' (conv=>whnf);first|((with_reducible refine QGc ?_);refine⟨[[.it .i64 x.b0],[.it .i64 x.b1],[.it .i64 x.b2]],⟨by decide+kernel,rfl,by simp,rfl,by decide+kernel⟩,QBe.vec ⟨by with_unfolding_all exact rfl,?_⟩⟩)|with_reducible refine X3 QE mixed [0] riT dkk ?_|with_reducible exact trivial|with_reducible refine Br.mk ?_ ?_|refine cEk hn ?_|refine cI QL2 ?_|refine cI QL4 ?_|refine cI QL6 ?_|refine cI QL3 ?_|refine cI QL5 ?_|refine CallI.byM (QBD _ _ [x.b0,x.b1,x.b2] (bll rfl) (bll rfl)) wu rfl ?_|refine CallI.byM (Y3 _ _ 3 (YB [x.b0,x.b1,x.b2]) (by simp[YB]) (bll rfl) (bll rfl)) wu rfl ?_|with_reducible refine Q0.unroll QE 5 ?_|refine gOI ?_|intro x hx hu|intro h|apply sS);all_goals try exact YX (by unfold RI;omega)
 all_goals (conv=>whnf)
 all_goals refine QBr (W9 (show _↔_ by omega) (hd.trans ?_))
 all_goals (unfold RI;simp only[vi,zj,yz,wy,not_or,or_false,false_or,not_false_eq_true,and_true,true_iff,wy,true_and];omega)
theorem ri4(x:Ino)(hk:x.k=1)(h1:0<=x.z)(h2:x.z<=128)(hz:(x.z+31)/32=4)(hd:((Lib.compact (YB [x.b0,x.b1,x.b2,x.b3])).length=4↔[x.b0,x.b1,x.b2,x.b3].Nodup)):FnC Tryz.prog 225 [.dg 6 (ZM x)] (.d (.bl (decide (RI x)))):=by
 refine QK QK3 ?_;have hn:=QBC x.z h1 h2;rw[hz]at hn;(repeat' (conv=>whnf);first|((with_reducible refine QGc ?_);refine⟨[[.it .i64 x.b0],[.it .i64 x.b1],[.it .i64 x.b2],[.it .i64 x.b3]],⟨by decide+kernel,rfl,by simp,rfl,by decide+kernel⟩,QBe.vec ⟨by with_unfolding_all exact rfl,?_⟩⟩)|with_reducible refine X3 QE mixed [0] riT dkk ?_|with_reducible exact trivial|with_reducible refine Br.mk ?_ ?_|refine cEk hn ?_|refine cI QL2 ?_|refine cI QL4 ?_|refine cI QL6 ?_|refine cI QL3 ?_|refine cI QL5 ?_|refine CallI.byM (QBD _ _ [x.b0,x.b1,x.b2,x.b3] (bll rfl) (bll rfl)) wu rfl ?_|refine CallI.byM (Y3 _ _ 4 (YB [x.b0,x.b1,x.b2,x.b3]) (by simp[YB]) (bll rfl) (bll rfl)) wu rfl ?_|with_reducible refine Q0.unroll QE 5 ?_|refine gOI ?_|intro x hx hu|intro h|apply sS);all_goals try exact YX (by unfold RI;omega)
 all_goals (conv=>whnf)
 all_goals refine QBr (W9 (show _↔_ by omega) (hd.trans ?_))
 all_goals (unfold RI;simp only[vi,zj,yz,wy,not_or,or_false,false_or,not_false_eq_true,and_true,true_iff,wy,true_and];omega)
theorem QK9(l:List Int):(YB l).length=l.length:=km _
theorem QIW(l:List Int):(YB l).Perm l:=List.mergeSort_perm _ _
theorem QMN(l:List Int):(YB l).Pairwise (· <= ·):=by
 have:=List.pairwise_mergeSort (le:=λx y:Int=>decide (x<=y)) (λa b c h1 h2=>by simp only[decide_eq_true_eq]at*;omega) (λa b=>by simp only[wb,decide_eq_true_eq];omega) l;exact this.imp λh=>by simpa using h
theorem QGd{zs:List Int}(h:zs.Pairwise (· <= ·)):(Lib.compact zs).length=zs.length↔zs.Nodup:=by
 have e:(Lib.compact zs).length=zs.length↔∀j,j<zs.length->Lib.keeps zs.toArray j=true:=by
  unfold Lib.compact Lib.compactUpTo;rw[ze];constructor
  ·intro hl j hj;have hl2:((List.range zs.length).filter (Lib.keeps zs.toArray)).length=(List.range zs.length).length:=by rw[hl,yy]
   exact List.length_filter_eq_length_iff.1 hl2 j (yj.2 hj)
  ·intro hk;rw[List.filter_eq_self.2 (λj hj=>hk j (yj.1 hj)),yy]
 rw[e];have hle:=u0.1 h;constructor
 ·intro hk;refine u0.2 λi j hi hj hij=>?_;have h1:=hk j hj;simp only[Lib.keeps,decide_eq_true_eq]at h1;have h2:zs[j]≠zs[j-1]'om:=by
   rcases h1 with h1|h1
   ·omega
   ·simpa [show j<zs.length from hj,show j-1<zs.length by omega]using h1
  have h3:=hle (j-1) j om hj om;by_cases h4:i=j-1
  ·subst h4;exact vf h2
  ·have h5:=hle i (j-1) hi om om;omega
 ·intro hn j hj;simp only[Lib.keeps,decide_eq_true_eq];rcases u9 j with h0|h0
  ·exact .inl h0
  ·right;have:=u0.1 hn (j-1) j om hj om;simpa [show j<zs.length from hj,show j-1<zs.length by omega]using vf this
theorem JX(l:List Int){n:Nat}(hl:l.length=n):(Lib.compact (YB l)).length=n↔l.Nodup:=by
 rw[<-hl,<-QK9 l,QGd (QMN l)];exact(QIW l).nodup_iff
theorem QUY(a b c d e f a' b' c' d' e' f':Int):Ju [.it .i64 a,.it .i64 b,.it .i64 c,.it .i64 d,.it .i64 e,.it .i64 f] [.it .i64 a',.it .i64 b',.it .i64 c',.it .i64 d',.it .i64 e',.it .i64 f']=decide (a=a'/\b=b'/\c=c'/\d=d'/\e=e'/\f=f'):=by
 rw[wj];simp[Ju,eqD]
theorem riK(x:Ino)(hk:x.k≠1\/x.z<0\/128<x.z):FnC Tryz.prog 225 [.dg 6 (ZM x)] (.d (.bl (decide (RI x)))):=by
 refine QK QK3 ?_;(repeat' (conv=>whnf);first|refine QC ?_|intro x hx hu|intro h|apply sS);all_goals first
  |exact YX (by unfold RI;omega)
  |exact QSi (QUY _ _ _ _ _ _ _ _ _ _ _ _) (QBr (by unfold RI;omega))
theorem ri0(x:Ino)(hk:x.k=1)(h0:x.z=0):FnC Tryz.prog 225 [.dg 6 (ZM x)] (.d (.bl (decide (RI x)))):=by
 refine QK QK3 ?_;have hn:=QBC x.z om om;rw[show(x.z+31)/32=0 by omega]at hn;have hl:=QQn 0 (by decide);(repeat' (conv=>whnf);first|((with_reducible refine QGc ?_);refine⟨[],⟨by decide+kernel,rfl,by simp,rfl,by decide+kernel⟩,QBe.vec ⟨by with_unfolding_all exact rfl,?_⟩⟩)|with_reducible refine X3 QE mixed [0] riT dkk ?_|with_reducible exact trivial|with_reducible refine Br.mk ?_ ?_|refine cEk hn ?_|refine cEk hl ?_|refine cI QL2 ?_|refine cI QL4 ?_|refine cI QL6 ?_|refine cI QL3 ?_|refine cI QL5 ?_|refine cI QUR ?_|refine cI QUT ?_|refine cI QUU ?_|refine cI QUS ?_|with_reducible refine Q0.unroll QE 5 ?_|refine gOI ?_|intro x hx hu|intro h|apply sS);all_goals first
  |exact YX (by unfold RI;omega)
  |exact QML (by unfold RI;omega)
theorem QSk(x:Ino):FnC Tryz.prog 225 [.dg 6 (ZM x)] (.d (.bl (decide (RI x)))):=by
 by_cases hk:x.k=1/\0<=x.z/\x.z<=128
 ·obtain ⟨hk,h0,h1⟩:=hk;rcases(by omega:x.z=0\/(x.z+31)/32=1\/(x.z+31)/32=2\/(x.z+31)/32=3\/(x.z+31)/32=4)with h|h|h|h|h
  ·exact ri0 x hk h
  ·exact ri1 x hk h0 h1 h (JX _ rfl)
  ·exact ri2 x hk h0 h1 h (JX _ rfl)
  ·exact ri3 x hk h0 h1 h (JX _ rfl)
  ·exact ri4 x hk h0 h1 h (JX _ rfl)
 ·exact riK x om
def JY(x:Ino):List Int:=[x.k,x.z,x.b0,x.b1,x.b2,x.b3,0,0,0,0,0,0,0,0,0,0,0,0,0,0,0,0,0,0,0,0,0,0,0,0,0,0]
def by8(n:Int):UInt8:=UInt8.ofNat n.toNat
def QBs(x:Ino):List UInt8:=(JY x).map by8
def QMO(l:List Int):List D:=l.map (λn=> .it .u8 n)
theorem QMP{n:Int}(h:0<=n/\n<256):((by8 n).toNat:Int)=n:=by
 unfold by8;rw[UInt8.toNat_ofNat'];omega
theorem QIX:∀ {l:List Int},(∀n∈l,0<=n/\n<256)->QMO l=QJ (l.map by8)
 |[],_=>rfl
 |n::l,h=>by
  show D.it .u8 n::QMO l=D.it .u8 (by8 n).toNat::QJ (l.map by8);rw[QMP (h n zm),QIX λm hm=>h m (zi _ hm)]
theorem QFQ{x:Ino}(h:RI x):∀n∈JY x,0<=n/\n<256:=by
 intro n hn;unfold RI at h;simp only[JY,zj,yz,or_false]at hn;omega
def QLA(x:Ino):AV:=if RI x then .tup [.dg 32 (QMO (JY x)),.d (.bl true)]else .tup [.dg 32 (QJ Qz),.d (.bl false)]
def QUZ:Tr:=(.cons 0 (.cons 1 (.cons 2 (.cons 3 (.cons 4 (.cons 5 (.cons 6 (.cons 7 (.cons 8 (.cons 9 .nil .nil) .nil) .nil) .nil) (.cons 6 (.cons 5 (.cons 7 (.cons 8 (.cons 9 .nil .nil) .nil) .nil) (.cons 7 (.cons 5 (.cons 8 (.cons 9 .nil .nil) .nil) .nil) .nil)) .nil)) (.cons 6 (.cons 4 (.cons 5 (.cons 7 (.cons 8 (.cons 9 .nil .nil) .nil) .nil) (.cons 7 (.cons 5 (.cons 8 (.cons 9 .nil .nil) .nil) .nil) .nil)) (.cons 7 (.cons 4 (.cons 5 (.cons 8 (.cons 9 .nil .nil) .nil) .nil) .nil) .nil)) .nil)) (.cons 6 (.cons 3 (.cons 4 (.cons 5 (.cons 7 (.cons 8 (.cons 9 .nil .nil) .nil) .nil) (.cons 7 (.cons 5 (.cons 8 (.cons 9 .nil .nil) .nil) .nil) .nil)) (.cons 7 (.cons 4 (.cons 5 (.cons 8 (.cons 9 .nil .nil) .nil) .nil) .nil) .nil)) (.cons 7 (.cons 3 (.cons 4 (.cons 5 (.cons 8 (.cons 9 .nil .nil) .nil) .nil) .nil) .nil) .nil)) .nil)) (.cons 3 (.cons 2 (.cons 4 (.cons 5 (.cons 6 (.cons 7 (.cons 8 (.cons 9 .nil .nil) .nil) .nil) .nil) (.cons 6 (.cons 5 (.cons 7 (.cons 8 (.cons 9 .nil .nil) .nil) .nil) (.cons 7 (.cons 5 (.cons 8 (.cons 9 .nil .nil) .nil) .nil) .nil)) .nil)) (.cons 6 (.cons 4 (.cons 5 (.cons 7 (.cons 8 (.cons 9 .nil .nil) .nil) .nil) (.cons 7 (.cons 5 (.cons 8 (.cons 9 .nil .nil) .nil) .nil) .nil)) (.cons 7 (.cons 4 (.cons 5 (.cons 8 (.cons 9 .nil .nil) .nil) .nil) .nil) .nil)) .nil)) (.cons 4 (.cons 2 (.cons 5 (.cons 6 (.cons 7 (.cons 8 (.cons 9 .nil .nil) .nil) .nil) .nil) (.cons 6 (.cons 5 (.cons 7 (.cons 8 (.cons 9 .nil .nil) .nil) .nil) (.cons 7 (.cons 5 (.cons 8 (.cons 9 .nil .nil) .nil) .nil) .nil)) .nil)) (.cons 5 (.cons 2 (.cons 6 (.cons 7 (.cons 8 (.cons 9 .nil .nil) .nil) .nil) .nil) .nil) .nil)) .nil)) .nil)) (.cons 3 (.cons 1 (.cons 2 (.cons 4 (.cons 5 (.cons 6 (.cons 7 (.cons 8 (.cons 9 .nil .nil) .nil) .nil) .nil) (.cons 6 (.cons 5 (.cons 7 (.cons 8 (.cons 9 .nil .nil) .nil) .nil) (.cons 7 (.cons 5 (.cons 8 (.cons 9 .nil .nil) .nil) .nil) .nil)) .nil)) (.cons 6 (.cons 4 (.cons 5 (.cons 7 (.cons 8 (.cons 9 .nil .nil) .nil) .nil) (.cons 7 (.cons 5 (.cons 8 (.cons 9 .nil .nil) .nil) .nil) .nil)) (.cons 7 (.cons 4 (.cons 5 (.cons 8 (.cons 9 .nil .nil) .nil) .nil) .nil) .nil)) .nil)) (.cons 4 (.cons 2 (.cons 5 (.cons 6 (.cons 7 (.cons 8 (.cons 9 .nil .nil) .nil) .nil) .nil) (.cons 6 (.cons 5 (.cons 7 (.cons 8 (.cons 9 .nil .nil) .nil) .nil) (.cons 7 (.cons 5 (.cons 8 (.cons 9 .nil .nil) .nil) .nil) .nil)) .nil)) (.cons 5 (.cons 2 (.cons 6 (.cons 7 (.cons 8 (.cons 9 .nil .nil) .nil) .nil) .nil) .nil) .nil)) .nil)) (.cons 4 (.cons 1 (.cons 2 (.cons 5 (.cons 6 (.cons 7 (.cons 8 (.cons 9 .nil .nil) .nil) .nil) .nil) (.cons 6 (.cons 5 (.cons 7 (.cons 8 (.cons 9 .nil .nil) .nil) .nil) (.cons 7 (.cons 5 (.cons 8 (.cons 9 .nil .nil) .nil) .nil) .nil)) .nil)) (.cons 5 (.cons 2 (.cons 6 (.cons 7 (.cons 8 (.cons 9 .nil .nil) .nil) .nil) .nil) .nil) .nil)) (.cons 5 (.cons 1 (.cons 2 (.cons 6 (.cons 7 (.cons 8 (.cons 9 .nil .nil) .nil) .nil) .nil) .nil) .nil) .nil)) .nil)) .nil)) (.cons 3 (.cons 0 (.cons 1 (.cons 2 (.cons 4 (.cons 5 (.cons 6 (.cons 7 (.cons 8 (.cons 9 .nil .nil) .nil) .nil) .nil) (.cons 6 (.cons 5 (.cons 7 (.cons 8 (.cons 9 .nil .nil) .nil) .nil) (.cons 7 (.cons 5 (.cons 8 (.cons 9 .nil .nil) .nil) .nil) .nil)) .nil)) (.cons 6 (.cons 4 (.cons 5 (.cons 7 (.cons 8 (.cons 9 .nil .nil) .nil) .nil) (.cons 7 (.cons 5 (.cons 8 (.cons 9 .nil .nil) .nil) .nil) .nil)) (.cons 7 (.cons 4 (.cons 5 (.cons 8 (.cons 9 .nil .nil) .nil) .nil) .nil) .nil)) .nil)) (.cons 4 (.cons 2 (.cons 5 (.cons 6 (.cons 7 (.cons 8 (.cons 9 .nil .nil) .nil) .nil) .nil) (.cons 6 (.cons 5 (.cons 7 (.cons 8 (.cons 9 .nil .nil) .nil) .nil) (.cons 7 (.cons 5 (.cons 8 (.cons 9 .nil .nil) .nil) .nil) .nil)) .nil)) (.cons 5 (.cons 2 (.cons 6 (.cons 7 (.cons 8 (.cons 9 .nil .nil) .nil) .nil) .nil) .nil) .nil)) .nil)) (.cons 4 (.cons 1 (.cons 2 (.cons 5 (.cons 6 (.cons 7 (.cons 8 (.cons 9 .nil .nil) .nil) .nil) .nil) (.cons 6 (.cons 5 (.cons 7 (.cons 8 (.cons 9 .nil .nil) .nil) .nil) (.cons 7 (.cons 5 (.cons 8 (.cons 9 .nil .nil) .nil) .nil) .nil)) .nil)) (.cons 5 (.cons 2 (.cons 6 (.cons 7 (.cons 8 (.cons 9 .nil .nil) .nil) .nil) .nil) .nil) .nil)) (.cons 5 (.cons 1 (.cons 2 (.cons 6 (.cons 7 (.cons 8 (.cons 9 .nil .nil) .nil) .nil) .nil) .nil) .nil) .nil)) .nil)) (.cons 4 (.cons 0 (.cons 1 (.cons 2 (.cons 5 (.cons 6 (.cons 7 (.cons 8 (.cons 9 .nil .nil) .nil) .nil) .nil) (.cons 6 (.cons 5 (.cons 7 (.cons 8 (.cons 9 .nil .nil) .nil) .nil) (.cons 7 (.cons 5 (.cons 8 (.cons 9 .nil .nil) .nil) .nil) .nil)) .nil)) (.cons 5 (.cons 2 (.cons 6 (.cons 7 (.cons 8 (.cons 9 .nil .nil) .nil) .nil) .nil) .nil) .nil)) (.cons 5 (.cons 1 (.cons 2 (.cons 6 (.cons 7 (.cons 8 (.cons 9 .nil .nil) .nil) .nil) .nil) .nil) .nil) .nil)) (.cons 5 (.cons 0 (.cons 1 (.cons 2 (.cons 6 (.cons 7 (.cons 8 (.cons 9 .nil .nil) .nil) .nil) .nil) .nil) .nil) .nil) .nil)) .nil)) .nil))
theorem QMQ(x:Ino):FnC Tryz.prog 180 [.dg 6 (ZM x)] (QLA x):=by
 have hr:=QSk x;unfold QLA;by_cases h:RI x
 ·rw [if_pos h];rw[decide_eq_true h]at hr;have hb:=QFQ h;have b0:=hb x.k (by simp[JY]);have b1:=hb x.z (by simp[JY]);have b2:=hb x.b0 (by simp[JY]);have b3:=hb x.b1 (by simp[JY]);have b4:=hb x.b2 (by simp[JY]);have b5:=hb x.b3 (by simp[JY]);clear hb;refine QK QSL ?_;(repeat' (conv=>whnf);first|refine cEk hr ?_|with_reducible refine AtA.mk' ?_|refine QC ?_|intro x hx hu|intro h|apply sS);refine QY.join ⟨[(1,.ptr 0 0),(2,.ptr 1 0),(3,.d (.bl false)),(4,.ptr 2 0)],[(0,.cells 6 ((ZM x).map .d)),(1,.cells 32 ((QJ Qz).map .d)),(2,.cells 32 ((QMO (x.k::x.z::List.replicate 30 0)).map .d))],3⟩ (X3 QE mixed [] QUZ dkk ?_) ?_
  ·(repeat' (conv=>whnf);first|with_reducible refine Br.mk ?_ ?_|with_reducible exact trivial|refine QC ?_|intro x hx hu|intro h|apply sS);all_goals exact Wk.e
  (repeat' (conv=>whnf);first|with_reducible refine Q0.unroll QE 5 ?_|with_reducible refine AtA.mk' ?_|refine QC ?_|intro x hx hu|intro h|apply sS);all_goals rfl
 ·rw [if_neg h];rw[decide_eq_false h]at hr;refine QK QSL ?_;(repeat' (conv=>whnf);first|refine cEk hr ?_|with_reducible refine AtA.mk' ?_|refine QC ?_|intro x hx hu|intro h|apply sS);all_goals rfl
def Z8(s:List UInt8):Ino:=⟨(s.getD 0 0).toNat,(s.getD 1 0).toNat,(s.getD 2 0).toNat,(s.getD 3 0).toNat,(s.getD 4 0).toNat,(s.getD 5 0).toNat⟩
def ZZ:Ino:=⟨0,0,0,0,0,0⟩
def QFR(s:List UInt8):AV:=if RI (Z8 s)/\s=QBs (Z8 s)then .tup [.dg 6 (ZM (Z8 s)),.d (.bl true)]else .tup [.dg 6 (ZM ZZ),.d (.bl false)]
theorem Qm{s:List UInt8}(hs:s.length=32)(k:Nat)(hk:k<32):s[k]? =some (s.getD k 0):=by
 rw[zo,zk om];rfl
theorem QGe(s:List UInt8)(hs:s.length=32):FnC Tryz.prog 155 [.dg 32 (QJ s)] (QFR s):=by
 have hi:=QMQ (Z8 s);unfold QFR;have c0:=(s.getD 0 0).toNat_lt;have c1:=(s.getD 1 0).toNat_lt;have c2:=(s.getD 2 0).toNat_lt;have c3:=(s.getD 3 0).toNat_lt;have c4:=(s.getD 4 0).toNat_lt;have c5:=(s.getD 5 0).toNat_lt;by_cases h:RI (Z8 s)
 ·rw [QLA,if_pos h,QIX (QFQ h)]at hi;have hil:(QBs (Z8 s)).length=32:=rfl;have he:=eqS s (QBs (Z8 s)) hs;by_cases h2:s=QBs (Z8 s)
  ·rw [decide_eq_true h2]at he;rw[if_pos ⟨h,h2⟩];refine QK QQZ ?_;(repeat' (conv=>whnf);first|refine cEk hi ?_|with_reducible refine Q0.unroll QE 5 ?_|refine AtA.eq (Ql rfl (Qm hs 0 (by decide))) ?_|refine AtA.eq (Ql rfl (Qm hs 1 (by decide))) ?_|refine AtA.eq (Ql rfl (Qm hs 2 (by decide))) ?_|refine AtA.eq (Ql rfl (Qm hs 3 (by decide))) ?_|refine AtA.eq (Ql rfl (Qm hs 4 (by decide))) ?_|refine AtA.eq (Ql rfl (Qm hs 5 (by decide))) ?_|refine AtA.eq (ZN rfl rfl hs) ?_|refine AtA.eq (ZN rfl rfl hil) ?_|refine X8 (Jy _ _ hs hil) ?_|refine QC ?_|intro x hx hu|intro h|apply sS);all_goals rfl
  ·rw [decide_eq_false h2]at he;rw[if_neg (λq=>h2 q.2)];refine QK QQZ ?_;(repeat' (conv=>whnf);first|refine cEk hi ?_|with_reducible refine Q0.unroll QE 5 ?_|refine AtA.eq (Ql rfl (Qm hs 0 (by decide))) ?_|refine AtA.eq (Ql rfl (Qm hs 1 (by decide))) ?_|refine AtA.eq (Ql rfl (Qm hs 2 (by decide))) ?_|refine AtA.eq (Ql rfl (Qm hs 3 (by decide))) ?_|refine AtA.eq (Ql rfl (Qm hs 4 (by decide))) ?_|refine AtA.eq (Ql rfl (Qm hs 5 (by decide))) ?_|refine AtA.eq (ZN rfl rfl hs) ?_|refine AtA.eq (ZN rfl rfl hil) ?_|refine X8 (Jy _ _ hs hil) ?_|refine QC ?_|intro x hx hu|intro h|apply sS);all_goals rfl
 ·rw [QLA,if_neg h]at hi;have hil:Qz.length=32:=rfl;rw[if_neg (λq=>h q.1)];refine QK QQZ ?_;(repeat' (conv=>whnf);first|refine cEk hi ?_|with_reducible refine Q0.unroll QE 5 ?_|refine AtA.eq (Ql rfl (Qm hs 0 (by decide))) ?_|refine AtA.eq (Ql rfl (Qm hs 1 (by decide))) ?_|refine AtA.eq (Ql rfl (Qm hs 2 (by decide))) ?_|refine AtA.eq (Ql rfl (Qm hs 3 (by decide))) ?_|refine AtA.eq (Ql rfl (Qm hs 4 (by decide))) ?_|refine AtA.eq (Ql rfl (Qm hs 5 (by decide))) ?_|refine AtA.eq (ZN rfl rfl hs) ?_|refine AtA.eq (ZN rfl rfl hil) ?_|refine X8 (Jy _ _ hs hil) ?_|refine QC ?_|intro x hx hu|intro h|apply sS);all_goals rfl
end Go.Proofs.YtikgcbioagmkkaaGreatDoor
