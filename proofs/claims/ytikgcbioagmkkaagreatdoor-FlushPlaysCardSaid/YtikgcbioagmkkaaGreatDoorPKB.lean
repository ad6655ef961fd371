/- Contracts of the functions that the law reaches, and the law. Conditions: none. -/
import Derived.Test.YtikgcbioagmkkaaGreatDoorPKA
import Derived.Test.YtikgcbioagmkkaaGreatDoorPSC
import Derived.Lib.RowBridge
set_option maxRecDepth 100000
set_option linter.all false
set_option maxHeartbeats 16000000
namespace Go.Proofs.YtikgcbioagmkkaaGreatDoor
open Go.Sy
structure Ino where
 k:Int
 z:Int
 b0:Int
 b1:Int
 b2:Int
 b3:Int
deriving DecidableEq
def Zn(x:Ino):List D:=[.it .i64 x.k,.it .i64 x.z,.it .i64 x.b0,.it .i64 x.b1,.it .i64 x.b2,.it .i64 x.b3]
def RI(x:Ino):Prop:=(x.k=0\/x.k=2)/\x.z=0/\x.b0=0/\x.b1=0/\x.b2=0/\x.b3=0\/
 x.k=1/\0<=x.z/\x.z<=128/\(0<x.z->1<=x.b0/\x.b0<=24)/\(x.z<=0->x.b0=0)/\(32<x.z->1<=x.b1/\x.b1<=24/\x.b1≠x.b0)/\(x.z<=32->x.b1=0)/\
 (64<x.z->1<=x.b2/\x.b2<=24/\x.b2≠x.b0/\x.b2≠x.b1)/\(x.z<=64->x.b2=0)/\(96<x.z->1<=x.b3/\x.b3<=24/\x.b3≠x.b0/\x.b3≠x.b1/\x.b3≠x.b2)/\(x.z<=96->x.b3=0)
instance(x:Ino):Decidable (RI x):=by unfold RI;infer_instance
theorem QBh(z:Int)(h0:0<=z)(h1:z<=128):FnC Tryz.prog 255 [.d (.it .i64 z)] (.d (.it .i64 ((z+31)/32))):=by
 refine QJ QU1 ?_;(repeat' (conv=>whnf);first|refine QA ?_|intro x hx hu|intro h|apply sS);all_goals exact QK om
theorem Jo(z:Int)(h0:0<=z)(h1:z<=128):FnC Tryz.prog 82 [.d (.it .i64 z)] (.d (.it .i64 ((z+31)/32))):=by
 refine QJ i82 ?_;(repeat' (conv=>whnf);first|refine QA ?_|intro x hx hu|intro h|apply sS);conv=>whnf
 refine QT QB (λn:Nat=>n<=4/\(n=0\/32*((n:Int)-1)<z)) (λn=>⟨[(0,.d (.it .i64 z)),(3,.d (.it .i64 n))],[],0⟩) (λn=>5-n) 0 ⟨z7 _,.inl rfl⟩ ⟨rr,trivial,rfl⟩ ?_;intro n ⟨n1,n2⟩;(repeat' (conv=>whnf);first|refine QA ?_|intro x hx hu|intro h|apply sS);all_goals first|exact QK om|refine again (n+1) ⟨by omega,by omega⟩ (by dsimp only;omega) (ai rfl (ai (QK om) trivial)) trivial rfl
def RIu(x:Ino)(i:Nat):Prop:=x.k=1/\0<=x.z/\x.z<=128/\(1<=i->(0<x.z->1<=x.b0/\x.b0<=24)/\(x.z<=0->x.b0=0))/\(2<=i->(32<x.z->1<=x.b1/\x.b1<=24/\x.b1≠x.b0)/\(x.z<=32->x.b1=0))/\
 (3<=i->(64<x.z->1<=x.b2/\x.b2<=24/\x.b2≠x.b0/\x.b2≠x.b1)/\(x.z<=64->x.b2=0))/\(4<=i->(96<x.z->1<=x.b3/\x.b3<=24/\x.b3≠x.b0/\x.b3≠x.b1/\x.b3≠x.b2)/\(x.z<=96->x.b3=0))
theorem QU6(a b c d:Int):Yg [.it .i64 a,.it .i64 b,.it .i64 c,.it .i64 d] [.it .i64 0,.it .i64 0,.it .i64 0,.it .i64 0]=decide (a=0/\b=0/\c=0/\d=0):=by
 rw[x8];simp[Yg,eqD]
variable {p:Prop}
theorem QQl{e:Bool} [Decidable p](h:e=true↔p):AV.d (.bl e)=AV.d (.bl (decide p)):=by
 have:e=decide p:=by rw[x8,h,decide_eq_true_eq]
 rw[this]
theorem Xw [Decidable p](h:¬p):AV.d (.bl false)=AV.d (.bl (decide p)):=by rw[decide_eq_false h]
theorem QCt [Decidable p](h:p):AV.d (.bl true)=AV.d (.bl (decide p)):=by rw[decide_eq_true h]
theorem QBD{q:Prop} [Decidable p] [Decidable q](h:p↔q):AV.d (.bl (decide p))=AV.d (.bl (decide q)):=by
 have:decide p=decide q:=by rw[x8,decide_eq_true_eq,decide_eq_true_eq,h]
 rw[this]
theorem QQm{a b:Bool}{v:AV}(h:a=b)(h2:AV.d (.bl b)=v):AV.d (.bl a)=v:=by rw[h,h2]
theorem QMd(x:Ino):FnC Tryz.prog 178 [.dg 6 (Zn x)] (.d (.bl (decide (RI x)))):=by
 refine QJ QUh ?_;(repeat' (conv=>whnf);first|refine QA ?_|intro x hx hu|intro h|apply sS);all_goals first
  |exact Xw (by unfold RI;omega)
  |exact QQm (QU6 _ _ _ _) (QBD (by unfold RI;omega))
  |skip
 conv=>whnf
 refine QT QB (λi:Nat=>i<=4/\RIu x i) (λi=>⟨[(1,.ptr 0 0),(3,.d (.it .i64 i))],[(0,.cells 6 ((Zn x).map .d))],1⟩) (λn=>5-n) 0 ⟨z7 _,by unfold RIu;omega⟩ ⟨rr,rr,rfl⟩ ?_;intro i ⟨i1,i2⟩;unfold RIu at i2;have hn:=Jo x.z om om
 match i,i1,i2 with
 |0,_,i2=>
  (repeat' (conv=>whnf);first|refine CallE.con ⟨_,hn,?_⟩|with_reducible refine Q7.unroll QB 4 ?_|refine QA ?_|intro x hx hu|intro h|apply sS);all_goals first
   |exact Xw (by unfold RI;omega)
   |exact QCt (by unfold RI;omega)
   |refine again 1 ⟨by omega,by unfold RIu;omega⟩ (by dsimp only;omega) rr rr rfl
 |1,_,i2=>
  (repeat' (conv=>whnf);first|refine CallE.con ⟨_,hn,?_⟩|with_reducible refine Q7.unroll QB 4 ?_|refine QA ?_|intro x hx hu|intro h|apply sS);all_goals first
   |exact Xw (by unfold RI;omega)
   |exact QCt (by unfold RI;omega)
   |refine again 2 ⟨by omega,by unfold RIu;omega⟩ (by dsimp only;omega) rr rr rfl
 |2,_,i2=>
  (repeat' (conv=>whnf);first|refine CallE.con ⟨_,hn,?_⟩|with_reducible refine Q7.unroll QB 4 ?_|refine QA ?_|intro x hx hu|intro h|apply sS);all_goals first
   |exact Xw (by unfold RI;omega)
   |exact QCt (by unfold RI;omega)
   |refine again 3 ⟨by omega,by unfold RIu;omega⟩ (by dsimp only;omega) rr rr rfl
 |3,_,i2=>
  (repeat' (conv=>whnf);first|refine CallE.con ⟨_,hn,?_⟩|with_reducible refine Q7.unroll QB 4 ?_|refine QA ?_|intro x hx hu|intro h|apply sS);all_goals first
   |exact Xw (by unfold RI;omega)
   |exact QCt (by unfold RI;omega)
   |refine again 4 ⟨by omega,by unfold RIu;omega⟩ (by dsimp only;omega) rr rr rfl
 |4,_,i2=>
  (repeat' (conv=>whnf);first|refine CallE.con ⟨_,hn,?_⟩|with_reducible refine Q7.unroll QB 4 ?_|refine QA ?_|intro x hx hu|intro h|apply sS);all_goals first
   |exact Xw (by unfold RI;omega)
   |exact QCt (by unfold RI;omega)
   |refine again 5 ⟨by omega,by unfold RIu;omega⟩ (by dsimp only;omega) rr rr rfl
def QTL(n:Nat):Int:=if n=0 then 0 else if n=1 then 1 else if n<4 then 2 else 3
theorem QMe(n:Nat)(hn:n<=4):FnC Tryz.prog 252 [.d (.it .u64 n)] (.d (.it .i64 (QTL n))):=by
 refine QJ QUz ?_
 match n,hn with
 |0,_=>
  (repeat' (conv=>whnf);first|refine QCh (x:=(0:UInt8)) dkk dkk ?_|with_reducible refine Q0.eq 0 wu ?_|refine QA ?_|intro x hx hu|intro h|apply sS)
  with_unfolding_all exact rfl
 |1,_=>
  (repeat' (conv=>whnf);first|refine QCh (x:=(1:UInt8)) dkk dkk ?_|with_reducible refine Q0.eq 1 wu ?_|refine QA ?_|intro x hx hu|intro h|apply sS)
  with_unfolding_all exact rfl
 |2,_=>
  (repeat' (conv=>whnf);first|refine QCh (x:=(2:UInt8)) dkk dkk ?_|with_reducible refine Q0.eq 2 wu ?_|refine QA ?_|intro x hx hu|intro h|apply sS)
  with_unfolding_all exact rfl
 |3,_=>
  (repeat' (conv=>whnf);first|refine QCh (x:=(2:UInt8)) dkk dkk ?_|with_reducible refine Q0.eq 2 wu ?_|refine QA ?_|intro x hx hu|intro h|apply sS)
  with_unfolding_all exact rfl
 |4,_=>
  (repeat' (conv=>whnf);first|refine QCh (x:=(3:UInt8)) dkk dkk ?_|with_reducible refine Q0.eq 3 wu ?_|refine QA ?_|intro x hx hu|intro h|apply sS)
  with_unfolding_all exact rfl
theorem QRG(n:Nat)(hn:n<=4):FnC Tryz.prog 223 [.d (.it .u64 n)] (.d (.it .i64 (QTL n))):=by
 refine QJ QUv ?_;have h:=QMe n hn;(repeat' (conv=>whnf);first|refine cXk h ?_|refine QA ?_|intro x hx hu|intro h|apply sS);rfl
def YF(l:List Int):List Int:=l.mergeSort λx y=>decide (x<=y)
def vI(l:List Int):List (List D):=l.map λz=>[.it .i64 z]
theorem QBi(t:Nat)(fl:Bool)(zs:List Int)(h0:0<zs.length)(hsz:zs.length<4611686018427387904):FnM Tryz.prog 259 true [.vx 1 0 0 zs.length] (.vec t 1 (vI zs) fl) (.vec t 1 (vI (YF zs)) fl) (.tup []):=
 FnM.ofRow (Value.int .i64) (λz=> .it .i64 z) (λF x=> .it _ _) (λF x v h=>by cases h;rfl) (m:=none) (je _) h0 (λq h=>by cases h) Tryz.call259 (λblk off cap w hH hb hc=>(Tryz.slices_Sort_int blk off cap zs w hH hb hsz).mono λe w' h=>h)
theorem JG(t:Nat)(fl:Bool)(n:Nat)(zs:List Int)(hn:zs.length=n)(h0:0<n)(hsz:n<4611686018427387904):FnM Tryz.prog 260 true [.vx 1 0 0 n] (.vec t 1 (vI zs) fl) (.vec t 1 (vI (Lib.compact zs++List.replicate (zs.length-(Lib.compact zs).length) 0)) fl) (.vx 1 0 0 (Lib.compact zs).length):=by
 subst hn;exact FnM.ofRow (Value.int .i64) (λz=> .it .i64 z) (λF x=> .it _ _) (λF x v h=>by cases h;rfl) (m:=some (Lib.compact zs).length) (by have:=Lib.compact_length_le zs;simp;omega) h0 (λq h=>by cases h;exact Lib.compact_length_le zs) Tryz.call260 (λblk off cap w hH hb hc=>(Tryz.slices_Compact_int blk off cap zs w hH om hc).mono λe w' ⟨h1,q,h2⟩=>⟨h1,q,#[],by rw[Go.Sort.grow_empty];exact h2⟩)
theorem QHI{α:Type}{p:α->Prop}(h:∃x,p x):∃x,p x:=h
theorem _root_.Go.Sy.CallE.id{A B:Prop}(h:CallE A B):CallE A B:=h
theorem _root_.Go.Sy.CallI.id{P:Program}{N:Nat}{o:Oper}{σ:S}{f:Nat}{l:List AV}{K:S->Prop}(h:CallI P N o σ f l K):CallI P N o σ f l K:=h
def riT:Tr:=(.cons 0 (.cons 1 (.cons 2 (.cons 3 (.cons 4 (.cons 5 (.cons 6 .nil .nil) .nil) .nil) .nil) .nil) (.cons 2 (.cons 1 (.cons 3 (.cons 4 (.cons 5 (.cons 6 .nil .nil) .nil) .nil) .nil) (.cons 3 (.cons 1 (.cons 4 (.cons 5 (.cons 6 .nil .nil) .nil) .nil) (.cons 4 (.cons 1 (.cons 5 (.cons 6 .nil .nil) .nil) .nil) .nil)) .nil)) .nil)) (.cons 2 (.cons 0 (.cons 1 (.cons 3 (.cons 4 (.cons 5 (.cons 6 .nil .nil) .nil) .nil) .nil) (.cons 3 (.cons 1 (.cons 4 (.cons 5 (.cons 6 .nil .nil) .nil) .nil) (.cons 4 (.cons 1 (.cons 5 (.cons 6 .nil .nil) .nil) .nil) .nil)) .nil)) (.cons 3 (.cons 0 (.cons 1 (.cons 4 (.cons 5 (.cons 6 .nil .nil) .nil) .nil) (.cons 4 (.cons 1 (.cons 5 (.cons 6 .nil .nil) .nil) .nil) .nil)) .nil) .nil)) .nil))
theorem ri1(x:Ino)(hk:x.k=1)(h1:0<=x.z)(h2:x.z<=128)(hz:(x.z+31)/32=1)(hd:((Lib.compact (YF [x.b0])).length=1↔[x.b0].Nodup)):FnC Tryz.prog 225 [.dg 6 (Zn x)] (.d (.bl (decide (RI x)))):=by
 refine QJ QLW ?_;have hn:=QBh x.z h1 h2;rw[hz]at hn;(repeat' (conv=>whnf);first|((with_reducible refine QHI ?_);refine⟨[[.it .i64 x.b0]],⟨by decide+kernel,rfl,by simp,rfl,by decide+kernel⟩,JD.vec ⟨by with_unfolding_all exact rfl,?_⟩⟩)|with_reducible refine YA QB mixed [0] riT dkk ?_|with_reducible exact trivial|with_reducible refine Br.mk ?_ ?_|refine cEk hn ?_|refine cI QML ?_|refine cI QMN ?_|refine cI QMP ?_|refine cI QMM ?_|refine cI QMO ?_|refine CallI.byM (QBi _ _ [x.b0] (bll rfl) (bll rfl)) wu rfl ?_|refine CallI.byM (JG _ _ 1 (YF [x.b0]) (by simp[YF]) (bll rfl) (bll rfl)) wu rfl ?_|with_reducible refine Q7.unroll QB 5 ?_|refine gOI ?_|intro x hx hu|intro h|apply sS);all_goals try exact Xw (by unfold RI;omega)
 all_goals (conv=>whnf)
 all_goals refine QBD (Vh (show _↔_ by omega) (hd.trans ?_))
 all_goals (unfold RI;simp only[vo,zi,xq,w9,not_or,or_false,false_or,not_false_eq_true,and_true,true_iff,w9,true_and];omega)
theorem ri2(x:Ino)(hk:x.k=1)(h1:0<=x.z)(h2:x.z<=128)(hz:(x.z+31)/32=2)(hd:((Lib.compact (YF [x.b0,x.b1])).length=2↔[x.b0,x.b1].Nodup)):FnC Tryz.prog 225 [.dg 6 (Zn x)] (.d (.bl (decide (RI x)))):=by
 refine QJ QLW ?_;have hn:=QBh x.z h1 h2;rw[hz]at hn;(repeat' (conv=>whnf);first|((with_reducible refine QHI ?_);refine⟨[[.it .i64 x.b0],[.it .i64 x.b1]],⟨by decide+kernel,rfl,by simp,rfl,by decide+kernel⟩,JD.vec ⟨by with_unfolding_all exact rfl,?_⟩⟩)|with_reducible refine YA QB mixed [0] riT dkk ?_|with_reducible exact trivial|with_reducible refine Br.mk ?_ ?_|refine cEk hn ?_|refine cI QML ?_|refine cI QMN ?_|refine cI QMP ?_|refine cI QMM ?_|refine cI QMO ?_|refine CallI.byM (QBi _ _ [x.b0,x.b1] (bll rfl) (bll rfl)) wu rfl ?_|refine CallI.byM (JG _ _ 2 (YF [x.b0,x.b1]) (by simp[YF]) (bll rfl) (bll rfl)) wu rfl ?_|with_reducible refine Q7.unroll QB 5 ?_|refine gOI ?_|intro x hx hu|intro h|apply sS);all_goals try exact Xw (by unfold RI;omega)
 all_goals (conv=>whnf)
 all_goals refine QBD (Vh (show _↔_ by omega) (hd.trans ?_))
 all_goals (unfold RI;simp only[vo,zi,xq,w9,not_or,or_false,false_or,not_false_eq_true,and_true,true_iff,w9,true_and];omega)
theorem ri3(x:Ino)(hk:x.k=1)(h1:0<=x.z)(h2:x.z<=128)(hz:(x.z+31)/32=3)(hd:((Lib.compact (YF [x.b0,x.b1,x.b2])).length=3↔[x.b0,x.b1,x.b2].Nodup)):FnC Tryz.prog 225 [.dg 6 (Zn x)] (.d (.bl (decide (RI x)))):=by
 refine QJ QLW ?_;have hn:=QBh x.z h1 h2;rw[hz]at hn;(repeat' (conv=>whnf);first|((with_reducible refine QHI ?_);refine⟨[[.it .i64 x.b0],[.it .i64 x.b1],[.it .i64 x.b2]],⟨by decide+kernel,rfl,by simp,rfl,by decide+kernel⟩,JD.vec ⟨by with_unfolding_all exact rfl,?_⟩⟩)|with_reducible refine YA QB mixed [0] riT dkk ?_|with_reducible exact trivial|with_reducible refine Br.mk ?_ ?_|refine cEk hn ?_|refine cI QML ?_|refine cI QMN ?_|refine cI QMP ?_|refine cI QMM ?_|refine cI QMO ?_|refine CallI.byM (QBi _ _ [x.b0,x.b1,x.b2] (bll rfl) (bll rfl)) wu rfl ?_|refine CallI.byM (JG _ _ 3 (YF [x.b0,x.b1,x.b2]) (by simp[YF]) (bll rfl) (bll rfl)) wu rfl ?_|with_reducible refine Q7.unroll QB 5 ?_|refine gOI ?_|intro x hx hu|intro h|apply sS);all_goals try exact Xw (by unfold RI;omega)
 all_goals (conv=>whnf)
 all_goals refine QBD (Vh (show _↔_ by omega) (hd.trans ?_))
 all_goals (unfold RI;simp only[vo,zi,xq,w9,not_or,or_false,false_or,not_false_eq_true,and_true,true_iff,w9,true_and];omega)
theorem ri4(x:Ino)(hk:x.k=1)(h1:0<=x.z)(h2:x.z<=128)(hz:(x.z+31)/32=4)(hd:((Lib.compact (YF [x.b0,x.b1,x.b2,x.b3])).length=4↔[x.b0,x.b1,x.b2,x.b3].Nodup)):FnC Tryz.prog 225 [.dg 6 (Zn x)] (.d (.bl (decide (RI x)))):=by
 refine QJ QLW ?_;have hn:=QBh x.z h1 h2;rw[hz]at hn;(repeat' (conv=>whnf);first|((with_reducible refine QHI ?_);refine⟨[[.it .i64 x.b0],[.it .i64 x.b1],[.it .i64 x.b2],[.it .i64 x.b3]],⟨by decide+kernel,rfl,by simp,rfl,by decide+kernel⟩,JD.vec ⟨by with_unfolding_all exact rfl,?_⟩⟩)|with_reducible refine YA QB mixed [0] riT dkk ?_|with_reducible exact trivial|with_reducible refine Br.mk ?_ ?_|refine cEk hn ?_|refine cI QML ?_|refine cI QMN ?_|refine cI QMP ?_|refine cI QMM ?_|refine cI QMO ?_|refine CallI.byM (QBi _ _ [x.b0,x.b1,x.b2,x.b3] (bll rfl) (bll rfl)) wu rfl ?_|refine CallI.byM (JG _ _ 4 (YF [x.b0,x.b1,x.b2,x.b3]) (by simp[YF]) (bll rfl) (bll rfl)) wu rfl ?_|with_reducible refine Q7.unroll QB 5 ?_|refine gOI ?_|intro x hx hu|intro h|apply sS);all_goals try exact Xw (by unfold RI;omega)
 all_goals (conv=>whnf)
 all_goals refine QBD (Vh (show _↔_ by omega) (hd.trans ?_))
 all_goals (unfold RI;simp only[vo,zi,xq,w9,not_or,or_false,false_or,not_false_eq_true,and_true,true_iff,w9,true_and];omega)
theorem QLb(l:List Int):(YF l).length=l.length:=je _
theorem QI3(l:List Int):(YF l).Perm l:=List.mergeSort_perm _ _
theorem QMf(l:List Int):(YF l).Pairwise (· <= ·):=by
 have:=Wq (le:=λx y:Int=>decide (x<=y)) (λa b c h1 h2=>by simp only[decide_eq_true_eq]at*;omega) (λa b=>by simp only[wj,decide_eq_true_eq];omega) l;exact this.imp λh=>by simpa using h
theorem QHJ{zs:List Int}(h:zs.Pairwise (· <= ·)):(Lib.compact zs).length=zs.length↔zs.Nodup:=by
 have e:(Lib.compact zs).length=zs.length↔∀j,j<zs.length->Lib.keeps zs.toArray j=true:=by
  unfold Lib.compact Lib.compactUpTo;rw[zb];constructor
  ·intro hl j hj;have hl2:((List.range zs.length).filter (Lib.keeps zs.toArray)).length=(List.range zs.length).length:=by rw[hl,xj]
   exact List.length_filter_eq_length_iff.1 hl2 j (xd.2 hj)
  ·intro hk;rw[List.filter_eq_self.2 (λj hj=>hk j (xd.1 hj)),xj]
 rw[e];have hle:=ut.1 h;constructor
 ·intro hk;refine ut.2 λi j hi hj hij=>?_;have h1:=hk j hj;simp only[Lib.keeps,decide_eq_true_eq]at h1;have h2:zs[j]≠zs[j-1]'om:=by
   rcases h1 with h1|h1
   ·omega
   ·simpa [show j<zs.length from hj,show j-1<zs.length by omega]using h1
  have h3:=hle (j-1) j om hj om;by_cases h4:i=j-1
  ·subst h4;exact vb h2
  ·have h5:=hle i (j-1) hi om om;omega
 ·intro hn j hj;simp only[Lib.keeps,decide_eq_true_eq];rcases ju j with h0|h0
  ·exact .inl h0
  ·right;have:=ut.1 hn (j-1) j om hj om;simpa [show j<zs.length from hj,show j-1<zs.length by omega]using vb this
theorem Jp(l:List Int){n:Nat}(hl:l.length=n):(Lib.compact (YF l)).length=n↔l.Nodup:=by
 rw[<-hl,<-QLb l,QHJ (QMf l)];exact(QI3 l).nodup_iff
theorem QU7(a b c d e f a' b' c' d' e' f':Int):Yg [.it .i64 a,.it .i64 b,.it .i64 c,.it .i64 d,.it .i64 e,.it .i64 f] [.it .i64 a',.it .i64 b',.it .i64 c',.it .i64 d',.it .i64 e',.it .i64 f']=decide (a=a'/\b=b'/\c=c'/\d=d'/\e=e'/\f=f'):=by
 rw[x8];simp[Yg,eqD]
theorem riK(x:Ino)(hk:x.k≠1\/x.z<0\/128<x.z):FnC Tryz.prog 225 [.dg 6 (Zn x)] (.d (.bl (decide (RI x)))):=by
 refine QJ QLW ?_;(repeat' (conv=>whnf);first|refine QA ?_|intro x hx hu|intro h|apply sS);all_goals first
  |exact Xw (by unfold RI;omega)
  |exact QQm (QU7 _ _ _ _ _ _ _ _ _ _ _ _) (QBD (by unfold RI;omega))
theorem ri0(x:Ino)(hk:x.k=1)(h0:x.z=0):FnC Tryz.prog 225 [.dg 6 (Zn x)] (.d (.bl (decide (RI x)))):=by
 refine QJ QLW ?_;have hn:=QBh x.z om om;rw[show(x.z+31)/32=0 by omega]at hn;have hl:=QRG 0 (by decide);(repeat' (conv=>whnf);first|((with_reducible refine QHI ?_);refine⟨[],⟨by decide+kernel,rfl,by simp,rfl,by decide+kernel⟩,JD.vec ⟨by with_unfolding_all exact rfl,?_⟩⟩)|with_reducible refine YA QB mixed [0] riT dkk ?_|with_reducible exact trivial|with_reducible refine Br.mk ?_ ?_|refine cEk hn ?_|refine cEk hl ?_|refine cI QML ?_|refine cI QMN ?_|refine cI QMP ?_|refine cI QMM ?_|refine cI QMO ?_|refine cI QU2 ?_|refine cI QU4 ?_|refine cI QU5 ?_|refine cI QU3 ?_|with_reducible refine Q7.unroll QB 5 ?_|refine gOI ?_|intro x hx hu|intro h|apply sS);all_goals first
  |exact Xw (by unfold RI;omega)
  |exact QCt (by unfold RI;omega)
theorem QTM(x:Ino):FnC Tryz.prog 225 [.dg 6 (Zn x)] (.d (.bl (decide (RI x)))):=by
 by_cases hk:x.k=1/\0<=x.z/\x.z<=128
 ·obtain ⟨hk,h0,h1⟩:=hk;rcases(by omega:x.z=0\/(x.z+31)/32=1\/(x.z+31)/32=2\/(x.z+31)/32=3\/(x.z+31)/32=4)with h|h|h|h|h
  ·exact ri0 x hk h
  ·exact ri1 x hk h0 h1 h (Jp _ rfl)
  ·exact ri2 x hk h0 h1 h (Jp _ rfl)
  ·exact ri3 x hk h0 h1 h (Jp _ rfl)
  ·exact ri4 x hk h0 h1 h (Jp _ rfl)
 ·exact riK x om
def J4(x:Ino):List Int:=[x.k,x.z,x.b0,x.b1,x.b2,x.b3,0,0,0,0,0,0,0,0,0,0,0,0,0,0,0,0,0,0,0,0,0,0,0,0,0,0]
def by8(n:Int):UInt8:=UInt8.ofNat n.toNat
def QDG(x:Ino):List UInt8:=(J4 x).map by8
def QMg(l:List Int):List D:=l.map (λn=> .it .u8 n)
theorem QRH{n:Int}(h:0<=n/\n<256):((by8 n).toNat:Int)=n:=by
 unfold by8;rw[UInt8.toNat_ofNat'];omega
theorem QGB:∀ {l:List Int},(∀n∈l,0<=n/\n<256)->QMg l=QF (l.map by8)
 |[],_=>rfl
 |n::l,h=>by
  show D.it .u8 n::QMg l=D.it .u8 (by8 n).toNat::QF (l.map by8);rw[QRH (h n zo),QGB λm hm=>h m (zk _ hm)]
theorem QDP{x:Ino}(h:RI x):∀n∈J4 x,0<=n/\n<256:=by
 intro n hn;unfold RI at h;simp only[J4,zi,xq,or_false]at hn;omega
def QEs(x:Ino):AV:=if RI x then .tup [.dg 32 (QMg (J4 x)),.d (.bl true)]else .tup [.dg 32 (QF Qs),.d (.bl false)]
def QU8:Tr:=(.cons 0 (.cons 1 (.cons 2 (.cons 3 (.cons 4 (.cons 5 (.cons 6 (.cons 7 (.cons 8 (.cons 9 .nil .nil) .nil) .nil) .nil) (.cons 6 (.cons 5 (.cons 7 (.cons 8 (.cons 9 .nil .nil) .nil) .nil) (.cons 7 (.cons 5 (.cons 8 (.cons 9 .nil .nil) .nil) .nil) .nil)) .nil)) (.cons 6 (.cons 4 (.cons 5 (.cons 7 (.cons 8 (.cons 9 .nil .nil) .nil) .nil) (.cons 7 (.cons 5 (.cons 8 (.cons 9 .nil .nil) .nil) .nil) .nil)) (.cons 7 (.cons 4 (.cons 5 (.cons 8 (.cons 9 .nil .nil) .nil) .nil) .nil) .nil)) .nil)) (.cons 6 (.cons 3 (.cons 4 (.cons 5 (.cons 7 (.cons 8 (.cons 9 .nil .nil) .nil) .nil) (.cons 7 (.cons 5 (.cons 8 (.cons 9 .nil .nil) .nil) .nil) .nil)) (.cons 7 (.cons 4 (.cons 5 (.cons 8 (.cons 9 .nil .nil) .nil) .nil) .nil) .nil)) (.cons 7 (.cons 3 (.cons 4 (.cons 5 (.cons 8 (.cons 9 .nil .nil) .nil) .nil) .nil) .nil) .nil)) .nil)) (.cons 3 (.cons 2 (.cons 4 (.cons 5 (.cons 6 (.cons 7 (.cons 8 (.cons 9 .nil .nil) .nil) .nil) .nil) (.cons 6 (.cons 5 (.cons 7 (.cons 8 (.cons 9 .nil .nil) .nil) .nil) (.cons 7 (.cons 5 (.cons 8 (.cons 9 .nil .nil) .nil) .nil) .nil)) .nil)) (.cons 6 (.cons 4 (.cons 5 (.cons 7 (.cons 8 (.cons 9 .nil .nil) .nil) .nil) (.cons 7 (.cons 5 (.cons 8 (.cons 9 .nil .nil) .nil) .nil) .nil)) (.cons 7 (.cons 4 (.cons 5 (.cons 8 (.cons 9 .nil .nil) .nil) .nil) .nil) .nil)) .nil)) (.cons 4 (.cons 2 (.cons 5 (.cons 6 (.cons 7 (.cons 8 (.cons 9 .nil .nil) .nil) .nil) .nil) (.cons 6 (.cons 5 (.cons 7 (.cons 8 (.cons 9 .nil .nil) .nil) .nil) (.cons 7 (.cons 5 (.cons 8 (.cons 9 .nil .nil) .nil) .nil) .nil)) .nil)) (.cons 5 (.cons 2 (.cons 6 (.cons 7 (.cons 8 (.cons 9 .nil .nil) .nil) .nil) .nil) .nil) .nil)) .nil)) .nil)) (.cons 3 (.cons 1 (.cons 2 (.cons 4 (.cons 5 (.cons 6 (.cons 7 (.cons 8 (.cons 9 .nil .nil) .nil) .nil) .nil) (.cons 6 (.cons 5 (.cons 7 (.cons 8 (.cons 9 .nil .nil) .nil) .nil) (.cons 7 (.cons 5 (.cons 8 (.cons 9 .nil .nil) .nil) .nil) .nil)) .nil)) (.cons 6 (.cons 4 (.cons 5 (.cons 7 (.cons 8 (.cons 9 .nil .nil) .nil) .nil) (.cons 7 (.cons 5 (.cons 8 (.cons 9 .nil .nil) .nil) .nil) .nil)) (.cons 7 (.cons 4 (.cons 5 (.cons 8 (.cons 9 .nil .nil) .nil) .nil) .nil) .nil)) .nil)) (.cons 4 (.cons 2 (.cons 5 (.cons 6 (.cons 7 (.cons 8 (.cons 9 .nil .nil) .nil) .nil) .nil) (.cons 6 (.cons 5 (.cons 7 (.cons 8 (.cons 9 .nil .nil) .nil) .nil) (.cons 7 (.cons 5 (.cons 8 (.cons 9 .nil .nil) .nil) .nil) .nil)) .nil)) (.cons 5 (.cons 2 (.cons 6 (.cons 7 (.cons 8 (.cons 9 .nil .nil) .nil) .nil) .nil) .nil) .nil)) .nil)) (.cons 4 (.cons 1 (.cons 2 (.cons 5 (.cons 6 (.cons 7 (.cons 8 (.cons 9 .nil .nil) .nil) .nil) .nil) (.cons 6 (.cons 5 (.cons 7 (.cons 8 (.cons 9 .nil .nil) .nil) .nil) (.cons 7 (.cons 5 (.cons 8 (.cons 9 .nil .nil) .nil) .nil) .nil)) .nil)) (.cons 5 (.cons 2 (.cons 6 (.cons 7 (.cons 8 (.cons 9 .nil .nil) .nil) .nil) .nil) .nil) .nil)) (.cons 5 (.cons 1 (.cons 2 (.cons 6 (.cons 7 (.cons 8 (.cons 9 .nil .nil) .nil) .nil) .nil) .nil) .nil) .nil)) .nil)) .nil)) (.cons 3 (.cons 0 (.cons 1 (.cons 2 (.cons 4 (.cons 5 (.cons 6 (.cons 7 (.cons 8 (.cons 9 .nil .nil) .nil) .nil) .nil) (.cons 6 (.cons 5 (.cons 7 (.cons 8 (.cons 9 .nil .nil) .nil) .nil) (.cons 7 (.cons 5 (.cons 8 (.cons 9 .nil .nil) .nil) .nil) .nil)) .nil)) (.cons 6 (.cons 4 (.cons 5 (.cons 7 (.cons 8 (.cons 9 .nil .nil) .nil) .nil) (.cons 7 (.cons 5 (.cons 8 (.cons 9 .nil .nil) .nil) .nil) .nil)) (.cons 7 (.cons 4 (.cons 5 (.cons 8 (.cons 9 .nil .nil) .nil) .nil) .nil) .nil)) .nil)) (.cons 4 (.cons 2 (.cons 5 (.cons 6 (.cons 7 (.cons 8 (.cons 9 .nil .nil) .nil) .nil) .nil) (.cons 6 (.cons 5 (.cons 7 (.cons 8 (.cons 9 .nil .nil) .nil) .nil) (.cons 7 (.cons 5 (.cons 8 (.cons 9 .nil .nil) .nil) .nil) .nil)) .nil)) (.cons 5 (.cons 2 (.cons 6 (.cons 7 (.cons 8 (.cons 9 .nil .nil) .nil) .nil) .nil) .nil) .nil)) .nil)) (.cons 4 (.cons 1 (.cons 2 (.cons 5 (.cons 6 (.cons 7 (.cons 8 (.cons 9 .nil .nil) .nil) .nil) .nil) (.cons 6 (.cons 5 (.cons 7 (.cons 8 (.cons 9 .nil .nil) .nil) .nil) (.cons 7 (.cons 5 (.cons 8 (.cons 9 .nil .nil) .nil) .nil) .nil)) .nil)) (.cons 5 (.cons 2 (.cons 6 (.cons 7 (.cons 8 (.cons 9 .nil .nil) .nil) .nil) .nil) .nil) .nil)) (.cons 5 (.cons 1 (.cons 2 (.cons 6 (.cons 7 (.cons 8 (.cons 9 .nil .nil) .nil) .nil) .nil) .nil) .nil) .nil)) .nil)) (.cons 4 (.cons 0 (.cons 1 (.cons 2 (.cons 5 (.cons 6 (.cons 7 (.cons 8 (.cons 9 .nil .nil) .nil) .nil) .nil) (.cons 6 (.cons 5 (.cons 7 (.cons 8 (.cons 9 .nil .nil) .nil) .nil) (.cons 7 (.cons 5 (.cons 8 (.cons 9 .nil .nil) .nil) .nil) .nil)) .nil)) (.cons 5 (.cons 2 (.cons 6 (.cons 7 (.cons 8 (.cons 9 .nil .nil) .nil) .nil) .nil) .nil) .nil)) (.cons 5 (.cons 1 (.cons 2 (.cons 6 (.cons 7 (.cons 8 (.cons 9 .nil .nil) .nil) .nil) .nil) .nil) .nil) .nil)) (.cons 5 (.cons 0 (.cons 1 (.cons 2 (.cons 6 (.cons 7 (.cons 8 (.cons 9 .nil .nil) .nil) .nil) .nil) .nil) .nil) .nil) .nil)) .nil)) .nil))
theorem QMh(x:Ino):FnC Tryz.prog 180 [.dg 6 (Zn x)] (QEs x):=by
 have hr:=QTM x;unfold QEs;by_cases h:RI x
 ·rw [if_pos h];rw[decide_eq_true h]at hr;have hb:=QDP h;have b0:=hb x.k (by simp[J4]);have b1:=hb x.z (by simp[J4]);have b2:=hb x.b0 (by simp[J4]);have b3:=hb x.b1 (by simp[J4]);have b4:=hb x.b2 (by simp[J4]);have b5:=hb x.b3 (by simp[J4]);clear hb;refine QJ QSy ?_;(repeat' (conv=>whnf);first|refine cEk hr ?_|with_reducible refine AtA.mk' ?_|refine QA ?_|intro x hx hu|intro h|apply sS);refine QX.join ⟨[(1,.ptr 0 0),(2,.ptr 1 0),(3,.d (.bl false)),(4,.ptr 2 0)],[(0,.cells 6 ((Zn x).map .d)),(1,.cells 32 ((QF Qs).map .d)),(2,.cells 32 ((QMg (x.k::x.z::List.replicate 30 0)).map .d))],3⟩ (YA QB mixed [] QU8 dkk ?_) ?_
  ·(repeat' (conv=>whnf);first|with_reducible refine Br.mk ?_ ?_|with_reducible exact trivial|refine QA ?_|intro x hx hu|intro h|apply sS);all_goals exact Wk.e
  (repeat' (conv=>whnf);first|with_reducible refine Q7.unroll QB 5 ?_|with_reducible refine AtA.mk' ?_|refine QA ?_|intro x hx hu|intro h|apply sS);all_goals rfl
 ·rw [if_neg h];rw[decide_eq_false h]at hr;refine QJ QSy ?_;(repeat' (conv=>whnf);first|refine cEk hr ?_|with_reducible refine AtA.mk' ?_|refine QA ?_|intro x hx hu|intro h|apply sS);all_goals rfl
def Zj(s:List UInt8):Ino:=⟨(s.getD 0 0).toNat,(s.getD 1 0).toNat,(s.getD 2 0).toNat,(s.getD 3 0).toNat,(s.getD 4 0).toNat,(s.getD 5 0).toNat⟩
def QGC:Ino:=⟨0,0,0,0,0,0⟩
def QCN(s:List UInt8):AV:=if RI (Zj s)/\s=QDG (Zj s)then .tup [.dg 6 (Zn (Zj s)),.d (.bl true)]else .tup [.dg 6 (Zn QGC),.d (.bl false)]
theorem QN{s:List UInt8}(hs:s.length=32)(k:Nat)(hk:k<32):s[k]? =some (s.getD k 0):=by
 rw[zr,zj om];rfl
theorem QHK(s:List UInt8)(hs:s.length=32):FnC Tryz.prog 155 [.dg 32 (QF s)] (QCN s):=by
 have hi:=QMh (Zj s);unfold QCN;have c0:=(s.getD 0 0).toNat_lt;have c1:=(s.getD 1 0).toNat_lt;have c2:=(s.getD 2 0).toNat_lt;have c3:=(s.getD 3 0).toNat_lt;have c4:=(s.getD 4 0).toNat_lt;have c5:=(s.getD 5 0).toNat_lt;by_cases h:RI (Zj s)
 ·rw [QEs,if_pos h,QGB (QDP h)]at hi;have hil:(QDG (Zj s)).length=32:=rfl;have he:=eqS s (QDG (Zj s)) hs;by_cases h2:s=QDG (Zj s)
  ·rw [decide_eq_true h2]at he;rw[if_pos ⟨h,h2⟩];refine QJ QQ6 ?_;(repeat' (conv=>whnf);first|refine cEk hi ?_|with_reducible refine Q7.unroll QB 5 ?_|refine AtA.eq (QM rfl (QN hs 0 (by decide))) ?_|refine AtA.eq (QM rfl (QN hs 1 (by decide))) ?_|refine AtA.eq (QM rfl (QN hs 2 (by decide))) ?_|refine AtA.eq (QM rfl (QN hs 3 (by decide))) ?_|refine AtA.eq (QM rfl (QN hs 4 (by decide))) ?_|refine AtA.eq (QM rfl (QN hs 5 (by decide))) ?_|refine AtA.eq (Qz rfl rfl hs) ?_|refine AtA.eq (Qz rfl rfl hil) ?_|refine ZY (XK _ _ hs hil) ?_|refine QA ?_|intro x hx hu|intro h|apply sS);all_goals rfl
  ·rw [decide_eq_false h2]at he;rw[if_neg (λq=>h2 q.2)];refine QJ QQ6 ?_;(repeat' (conv=>whnf);first|refine cEk hi ?_|with_reducible refine Q7.unroll QB 5 ?_|refine AtA.eq (QM rfl (QN hs 0 (by decide))) ?_|refine AtA.eq (QM rfl (QN hs 1 (by decide))) ?_|refine AtA.eq (QM rfl (QN hs 2 (by decide))) ?_|refine AtA.eq (QM rfl (QN hs 3 (by decide))) ?_|refine AtA.eq (QM rfl (QN hs 4 (by decide))) ?_|refine AtA.eq (QM rfl (QN hs 5 (by decide))) ?_|refine AtA.eq (Qz rfl rfl hs) ?_|refine AtA.eq (Qz rfl rfl hil) ?_|refine ZY (XK _ _ hs hil) ?_|refine QA ?_|intro x hx hu|intro h|apply sS);all_goals rfl
 ·rw [QEs,if_neg h]at hi;have hil:Qs.length=32:=rfl;rw[if_neg (λq=>h q.1)];refine QJ QQ6 ?_;(repeat' (conv=>whnf);first|refine cEk hi ?_|with_reducible refine Q7.unroll QB 5 ?_|refine AtA.eq (QM rfl (QN hs 0 (by decide))) ?_|refine AtA.eq (QM rfl (QN hs 1 (by decide))) ?_|refine AtA.eq (QM rfl (QN hs 2 (by decide))) ?_|refine AtA.eq (QM rfl (QN hs 3 (by decide))) ?_|refine AtA.eq (QM rfl (QN hs 4 (by decide))) ?_|refine AtA.eq (QM rfl (QN hs 5 (by decide))) ?_|refine AtA.eq (Qz rfl rfl hs) ?_|refine AtA.eq (Qz rfl rfl hil) ?_|refine ZY (XK _ _ hs hil) ?_|refine QA ?_|intro x hx hu|intro h|apply sS);all_goals rfl
theorem QFI(x:Ino):FnC Tryz.prog 133 [.dg 6 (Zn x)] (QEs x):=by
 have hr:=QMd x;unfold QEs;by_cases h:RI x
 ·rw [if_pos h];rw[decide_eq_true h]at hr;have hb:=QDP h;have b0:=hb x.k (by simp[J4]);have b1:=hb x.z (by simp[J4]);have b2:=hb x.b0 (by simp[J4]);have b3:=hb x.b1 (by simp[J4]);have b4:=hb x.b2 (by simp[J4]);have b5:=hb x.b3 (by simp[J4]);clear hb;refine QJ QSo ?_;(repeat' (conv=>whnf);first|refine cEk hr ?_|with_reducible refine Q7.unroll QB 5 ?_|with_reducible refine AtA.mk' ?_|refine QA ?_|intro x hx hu|intro h|apply sS);all_goals rfl
 ·rw [if_neg h];rw[decide_eq_false h]at hr;refine QJ QSo ?_;(repeat' (conv=>whnf);first|refine cEk hr ?_|with_reducible refine AtA.mk' ?_|refine QA ?_|intro x hx hu|intro h|apply sS);all_goals rfl
theorem QHL(s:List UInt8)(hs:s.length=32):FnC Tryz.prog 131 [.dg 32 (QF s)] (QCN s):=by
 have hi:=QFI (Zj s);unfold QCN;have c0:=(s.getD 0 0).toNat_lt;have c1:=(s.getD 1 0).toNat_lt;have c2:=(s.getD 2 0).toNat_lt;have c3:=(s.getD 3 0).toNat_lt;have c4:=(s.getD 4 0).toNat_lt;have c5:=(s.getD 5 0).toNat_lt;by_cases h:RI (Zj s)
 ·rw [QEs,if_pos h,QGB (QDP h)]at hi;have hil:(QDG (Zj s)).length=32:=rfl;have he:=eqS (QDG (Zj s)) s hs.symm;by_cases h2:s=QDG (Zj s)
  ·rw [decide_eq_true h2.symm]at he;rw[if_pos ⟨h,h2⟩];refine QJ QQ2 ?_;(repeat' (conv=>whnf);first|refine cEk hi ?_|with_reducible refine Q7.unroll QB 5 ?_|refine AtA.eq (QM rfl (QN hs 0 (by decide))) ?_|refine AtA.eq (QM rfl (QN hs 1 (by decide))) ?_|refine AtA.eq (QM rfl (QN hs 2 (by decide))) ?_|refine AtA.eq (QM rfl (QN hs 3 (by decide))) ?_|refine AtA.eq (QM rfl (QN hs 4 (by decide))) ?_|refine AtA.eq (QM rfl (QN hs 5 (by decide))) ?_|refine AtA.eq (Qz rfl rfl hs) ?_|refine AtA.eq (Qz rfl rfl hil) ?_|refine ZY (XK _ _ hil hs) ?_|refine QA ?_|intro x hx hu|intro h|apply sS);all_goals rfl
  ·rw [decide_eq_false (vb h2)]at he;rw[if_neg (λq=>h2 q.2)];refine QJ QQ2 ?_;(repeat' (conv=>whnf);first|refine cEk hi ?_|with_reducible refine Q7.unroll QB 5 ?_|refine AtA.eq (QM rfl (QN hs 0 (by decide))) ?_|refine AtA.eq (QM rfl (QN hs 1 (by decide))) ?_|refine AtA.eq (QM rfl (QN hs 2 (by decide))) ?_|refine AtA.eq (QM rfl (QN hs 3 (by decide))) ?_|refine AtA.eq (QM rfl (QN hs 4 (by decide))) ?_|refine AtA.eq (QM rfl (QN hs 5 (by decide))) ?_|refine AtA.eq (Qz rfl rfl hs) ?_|refine AtA.eq (Qz rfl rfl hil) ?_|refine ZY (XK _ _ hil hs) ?_|refine QA ?_|intro x hx hu|intro h|apply sS);all_goals rfl
 ·rw [QEs,if_neg h]at hi;have hil:Qs.length=32:=rfl;rw[if_neg (λq=>h q.1)];refine QJ QQ2 ?_;(repeat' (conv=>whnf);first|refine cEk hi ?_|with_reducible refine Q7.unroll QB 5 ?_|refine AtA.eq (QM rfl (QN hs 0 (by decide))) ?_|refine AtA.eq (QM rfl (QN hs 1 (by decide))) ?_|refine AtA.eq (QM rfl (QN hs 2 (by decide))) ?_|refine AtA.eq (QM rfl (QN hs 3 (by decide))) ?_|refine AtA.eq (QM rfl (QN hs 4 (by decide))) ?_|refine AtA.eq (QM rfl (QN hs 5 (by decide))) ?_|refine AtA.eq (Qz rfl rfl hs) ?_|refine AtA.eq (Qz rfl rfl hil) ?_|refine ZY (XK _ _ hil hs) ?_|refine QA ?_|intro x hx hu|intro h|apply sS);all_goals rfl
end Go.Proofs.YtikgcbioagmkkaaGreatDoor
