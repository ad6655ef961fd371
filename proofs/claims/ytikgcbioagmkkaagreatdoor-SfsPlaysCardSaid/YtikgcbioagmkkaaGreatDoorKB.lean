/- Contracts of the functions that the law reaches, and the law. Conditions: none. -/
import Derived.Test.YtikgcbioagmkkaaGreatDoorKA
import Derived.Test.YtikgcbioagmkkaaGreatDoorSC
import Derived.Lib.RowBridge
set_option maxRecDepth 100000
set_option linter.all false
set_option maxHeartbeats 16000000
namespace Go.Proofs.YtikgcbioagmkkaaGreatDoor
open Go.Sy
structure Ino where
 k:Int
 z:Int
 b0:Int
 b1:Int
 b2:Int
 b3:Int
deriving DecidableEq
def Za(x:Ino):List D:=[.it .i64 x.k,.it .i64 x.z,.it .i64 x.b0,.it .i64 x.b1,.it .i64 x.b2,.it .i64 x.b3]
def RI(x:Ino):Prop:=(x.k=0∨x.k=2)∧x.z=0∧x.b0=0∧x.b1=0∧x.b2=0∧x.b3=0∨
 x.k=1∧0≤x.z∧x.z≤128∧(0<x.z→1≤x.b0∧x.b0≤24)∧(x.z≤0→x.b0=0)∧(32<x.z→1≤x.b1∧x.b1≤24∧x.b1≠x.b0)∧(x.z≤32→x.b1=0)∧
 (64<x.z→1≤x.b2∧x.b2≤24∧x.b2≠x.b0∧x.b2≠x.b1)∧(x.z≤64→x.b2=0)∧(96<x.z→1≤x.b3∧x.b3≤24∧x.b3≠x.b0∧x.b3≠x.b1∧x.b3≠x.b2)∧(x.z≤96→x.b3=0)
instance(x:Ino):Decidable (RI x):=by unfold RI;infer_instance
theorem QBT(z:Int)(h0:0≤z)(h1:z≤128):FnC Tryz.prog 255 [.d (.it .i64 z)] (.d (.it .i64 ((z+31)/32))):=by
 refine QL QT4 ?_
 (repeat' ((conv=>whnf);first|refine QB ?_|intro x hx hu|intro h|refine Spp.mk ?_ ?_))
 all_goals exact QQ (by omega)
theorem Ja(z:Int)(h0:0≤z)(h1:z≤128):FnC Tryz.prog 82 [.d (.it .i64 z)] (.d (.it .i64 ((z+31)/32))):=by
 refine QL i82 ?_
 (repeat' ((conv=>whnf);first|refine QB ?_|intro x hx hu|intro h|refine Spp.mk ?_ ?_))
 conv=>whnf
 refine QU QA (fun n:Nat=>n≤4∧(n=0∨32*((n:Int)-1)<z)) (fun n=>⟨[(0,.d (.it .i64 z)),(3,.d (.it .i64 n))],[],0⟩) (fun n=>5-n) 0 ⟨z7 _,.inl rfl⟩ ⟨⟨rfl,rfl,trivial⟩,trivial,rfl⟩ ?_
 intro n ⟨n1,n2⟩
 (repeat' ((conv=>whnf);first|refine QB ?_|intro x hx hu|intro h|refine Spp.mk ?_ ?_))
 all_goals first|exact QQ (by omega)|refine again (n+1) ⟨by omega,by omega⟩ (by dsimp only;omega) (ai rfl (ai (QQ (by omega)) trivial)) trivial rfl
def RIu(x:Ino)(i:Nat):Prop:=x.k=1∧0≤x.z∧x.z≤128∧(1≤i→(0<x.z→1≤x.b0∧x.b0≤24)∧(x.z≤0→x.b0=0))∧(2≤i→(32<x.z→1≤x.b1∧x.b1≤24∧x.b1≠x.b0)∧(x.z≤32→x.b1=0))∧
 (3≤i→(64<x.z→1≤x.b2∧x.b2≤24∧x.b2≠x.b0∧x.b2≠x.b1)∧(x.z≤64→x.b2=0))∧(4≤i→(96<x.z→1≤x.b3∧x.b3≤24∧x.b3≠x.b0∧x.b3≠x.b1∧x.b3≠x.b2)∧(x.z≤96→x.b3=0))
theorem QUF(a b c d:Int):JT [.it .i64 a,.it .i64 b,.it .i64 c,.it .i64 d] [.it .i64 0,.it .i64 0,.it .i64 0,.it .i64 0]=decide (a=0∧b=0∧c=0∧d=0):=by
 rw[wc];simp[JT,eqD]
theorem QL1{e:Bool}{p:Prop} [Decidable p](h:e=true↔p):AV.d (.bl e)=AV.d (.bl (decide p)):=by
 have:e=decide p:=by rw[wc,h,decide_eq_true_eq]
 rw[this]
theorem XH{p:Prop} [Decidable p](h:¬p):AV.d (.bl false)=AV.d (.bl (decide p)):=by rw[decide_eq_false h]
theorem QCh{p:Prop} [Decidable p](h:p):AV.d (.bl true)=AV.d (.bl (decide p)):=by rw[decide_eq_true h]
theorem QAv{p q:Prop} [Decidable p] [Decidable q](h:p↔q):AV.d (.bl (decide p))=AV.d (.bl (decide q)):=by
 have:decide p=decide q:=by rw[wc,decide_eq_true_eq,decide_eq_true_eq,h]
 rw[this]
theorem QP3{a b:Bool}{v:AV}(h:a=b)(h2:AV.d (.bl b)=v):AV.d (.bl a)=v:=by rw[h,h2]
theorem QL2(x:Ino):FnC Tryz.prog 178 [.dg 6 (Za x)] (.d (.bl (decide (RI x)))):=by
 refine QL QTm ?_
 (repeat' ((conv=>whnf);first|refine QB ?_|intro x hx hu|intro h|refine Spp.mk ?_ ?_))
 all_goals first
  |exact XH (by unfold RI;omega)
  |exact QP3 (QUF _ _ _ _) (QAv (by unfold RI;omega))
  |skip
 conv=>whnf
 refine QU QA (fun i:Nat=>i≤4∧RIu x i) (fun i=>⟨[(1,.ptr 0 0),(3,.d (.it .i64 i))],[(0,.cells 6 ((Za x).map .d))],1⟩) (fun n=>5-n) 0 ⟨z7 _,by unfold RIu;omega⟩ ⟨⟨rfl,rfl,trivial⟩,⟨rfl,trivial⟩,rfl⟩ ?_
 intro i ⟨i1,i2⟩
 unfold RIu at i2
 have hn:=Ja x.z (by omega) (by omega)
 match i,i1,i2 with
 |0,_,i2=>
  (repeat' ((conv=>whnf);first|refine CallE.con ⟨_,hn,?_⟩|with_reducible refine ZA.unroll QA 4 ?_|refine QB ?_|intro x hx hu|intro h|refine Spp.mk ?_ ?_))
  all_goals first
   |exact XH (by unfold RI;omega)
   |exact QCh (by unfold RI;omega)
   |refine again 1 ⟨by omega,by unfold RIu;omega⟩ (by dsimp only;omega) (ai rfl (ai rfl trivial)) (ai rfl trivial) rfl
 |1,_,i2=>
  (repeat' ((conv=>whnf);first|refine CallE.con ⟨_,hn,?_⟩|with_reducible refine ZA.unroll QA 4 ?_|refine QB ?_|intro x hx hu|intro h|refine Spp.mk ?_ ?_))
  all_goals first
   |exact XH (by unfold RI;omega)
   |exact QCh (by unfold RI;omega)
   |refine again 2 ⟨by omega,by unfold RIu;omega⟩ (by dsimp only;omega) (ai rfl (ai rfl trivial)) (ai rfl trivial) rfl
 |2,_,i2=>
  (repeat' ((conv=>whnf);first|refine CallE.con ⟨_,hn,?_⟩|with_reducible refine ZA.unroll QA 4 ?_|refine QB ?_|intro x hx hu|intro h|refine Spp.mk ?_ ?_))
  all_goals first
   |exact XH (by unfold RI;omega)
   |exact QCh (by unfold RI;omega)
   |refine again 3 ⟨by omega,by unfold RIu;omega⟩ (by dsimp only;omega) (ai rfl (ai rfl trivial)) (ai rfl trivial) rfl
 |3,_,i2=>
  (repeat' ((conv=>whnf);first|refine CallE.con ⟨_,hn,?_⟩|with_reducible refine ZA.unroll QA 4 ?_|refine QB ?_|intro x hx hu|intro h|refine Spp.mk ?_ ?_))
  all_goals first
   |exact XH (by unfold RI;omega)
   |exact QCh (by unfold RI;omega)
   |refine again 4 ⟨by omega,by unfold RIu;omega⟩ (by dsimp only;omega) (ai rfl (ai rfl trivial)) (ai rfl trivial) rfl
 |4,_,i2=>
  (repeat' ((conv=>whnf);first|refine CallE.con ⟨_,hn,?_⟩|with_reducible refine ZA.unroll QA 4 ?_|refine QB ?_|intro x hx hu|intro h|refine Spp.mk ?_ ?_))
  all_goals first
   |exact XH (by unfold RI;omega)
   |exact QCh (by unfold RI;omega)
   |refine again 5 ⟨by omega,by unfold RIu;omega⟩ (by dsimp only;omega) (ai rfl (ai rfl trivial)) (ai rfl trivial) rfl
def QSK(n:Nat):Int:=if n=0 then 0 else if n=1 then 1 else if n<4 then 2 else 3
theorem QL3(n:Nat)(hn:n≤4):FnC Tryz.prog 252 [.d (.it .u64 n)] (.d (.it .i64 (QSK n))):=by
 refine QL QT2 ?_
 match n,hn with
 |0,_=>
  (repeat' ((conv=>whnf);first|refine QCS (x:=(0:UInt8)) (by decide+kernel) (by decide+kernel) ?_|with_reducible refine Qj.eq 0 (by with_unfolding_all exact rfl) ?_|refine QB ?_|intro x hx hu|intro h|refine Spp.mk ?_ ?_))
  with_unfolding_all exact rfl
 |1,_=>
  (repeat' ((conv=>whnf);first|refine QCS (x:=(1:UInt8)) (by decide+kernel) (by decide+kernel) ?_|with_reducible refine Qj.eq 1 (by with_unfolding_all exact rfl) ?_|refine QB ?_|intro x hx hu|intro h|refine Spp.mk ?_ ?_))
  with_unfolding_all exact rfl
 |2,_=>
  (repeat' ((conv=>whnf);first|refine QCS (x:=(2:UInt8)) (by decide+kernel) (by decide+kernel) ?_|with_reducible refine Qj.eq 2 (by with_unfolding_all exact rfl) ?_|refine QB ?_|intro x hx hu|intro h|refine Spp.mk ?_ ?_))
  with_unfolding_all exact rfl
 |3,_=>
  (repeat' ((conv=>whnf);first|refine QCS (x:=(2:UInt8)) (by decide+kernel) (by decide+kernel) ?_|with_reducible refine Qj.eq 2 (by with_unfolding_all exact rfl) ?_|refine QB ?_|intro x hx hu|intro h|refine Spp.mk ?_ ?_))
  with_unfolding_all exact rfl
 |4,_=>
  (repeat' ((conv=>whnf);first|refine QCS (x:=(3:UInt8)) (by decide+kernel) (by decide+kernel) ?_|with_reducible refine Qj.eq 3 (by with_unfolding_all exact rfl) ?_|refine QB ?_|intro x hx hu|intro h|refine Spp.mk ?_ ?_))
  with_unfolding_all exact rfl
theorem QQa(n:Nat)(hn:n≤4):FnC Tryz.prog 223 [.d (.it .u64 n)] (.d (.it .i64 (QSK n))):=by
 refine QL QTy ?_
 have h:=QL3 n hn
 (repeat' ((conv=>whnf);first|refine cEk h ?_|refine cPk h ?_|refine QB ?_|intro x hx hu|intro h|refine Spp.mk ?_ ?_))
 rfl
def X5(l:List Int):List Int:=l.mergeSort fun x y=>decide (x≤y)
def vI(l:List Int):List (List D):=l.map fun z=>[.it .i64 z]
theorem QBU(t:Nat)(fl:Bool)(zs:List Int)(h0:0<zs.length)(hsz:zs.length<4611686018427387904):FnM Tryz.prog 259 true [.vx 1 0 0 zs.length] (.vec t 1 (vI zs) fl) (.vec t 1 (vI (X5 zs)) fl) (.tup []):=
 FnM.ofRow (Value.int .i64) (fun z=> .it .i64 z) (fun F x=> .it _ _) (fun F x v h=>by cases h;rfl) (m:=none) (ko _) h0 (fun q h=>by cases h) Tryz.call259 (fun blk off cap w hH hb hc=>(Tryz.slices_Sort_int blk off cap zs w hH hb hsz).mono fun e w' h=>h)
theorem Y1(t:Nat)(fl:Bool)(n:Nat)(zs:List Int)(hn:zs.length=n)(h0:0<n)(hsz:n<4611686018427387904):FnM Tryz.prog 260 true [.vx 1 0 0 n] (.vec t 1 (vI zs) fl) (.vec t 1 (vI (Lib.compact zs++List.replicate (zs.length-(Lib.compact zs).length) 0)) fl) (.vx 1 0 0 (Lib.compact zs).length):=by
 subst hn
 exact FnM.ofRow (Value.int .i64) (fun z=> .it .i64 z) (fun F x=> .it _ _) (fun F x v h=>by cases h;rfl) (m:=some (Lib.compact zs).length) (by have:=Lib.compact_length_le zs;simp;omega) h0 (fun q h=>by cases h;exact Lib.compact_length_le zs) Tryz.call260 (fun blk off cap w hH hb hc=>(Tryz.slices_Compact_int blk off cap zs w hH (by omega) hc).mono fun e w' ⟨h1,q,h2⟩=>⟨h1,q,#[],by rw[Go.Sort.grow_empty];exact h2⟩)
theorem QG9{α:Type}{p:α→Prop}(h:∃x,p x):∃x,p x:=h
theorem _root_.Go.Sy.CallE.id{A B:Prop}(h:CallE A B):CallE A B:=h
theorem _root_.Go.Sy.CallI.id{P:Program}{N:Nat}{o:Oper}{σ:S}{f:Nat}{l:List AV}{K:S→Prop}(h:CallI P N o σ f l K):CallI P N o σ f l K:=h
def riT:Tr:=(.cons 0 (.cons 1 (.cons 2 (.cons 3 (.cons 4 (.cons 5 (.cons 6 .nil .nil) .nil) .nil) .nil) .nil) (.cons 2 (.cons 1 (.cons 3 (.cons 4 (.cons 5 (.cons 6 .nil .nil) .nil) .nil) .nil) (.cons 3 (.cons 1 (.cons 4 (.cons 5 (.cons 6 .nil .nil) .nil) .nil) (.cons 4 (.cons 1 (.cons 5 (.cons 6 .nil .nil) .nil) .nil) .nil)) .nil)) .nil)) (.cons 2 (.cons 0 (.cons 1 (.cons 3 (.cons 4 (.cons 5 (.cons 6 .nil .nil) .nil) .nil) .nil) (.cons 3 (.cons 1 (.cons 4 (.cons 5 (.cons 6 .nil .nil) .nil) .nil) (.cons 4 (.cons 1 (.cons 5 (.cons 6 .nil .nil) .nil) .nil) .nil)) .nil)) (.cons 3 (.cons 0 (.cons 1 (.cons 4 (.cons 5 (.cons 6 .nil .nil) .nil) .nil) (.cons 4 (.cons 1 (.cons 5 (.cons 6 .nil .nil) .nil) .nil) .nil)) .nil) .nil)) .nil))
theorem ri1(x:Ino)(hk:x.k=1)(h1:0≤x.z)(h2:x.z≤128)(hz:(x.z+31)/32=1)(hd:((Lib.compact (X5 [x.b0])).length=1↔[x.b0].Nodup)):FnC Tryz.prog 225 [.dg 6 (Za x)] (.d (.bl (decide (RI x)))):=by
 refine QL QKt ?_
 have hn:=QBT x.z h1 h2
 rw[hz]at hn
 (repeat' ((conv=>whnf);first|((with_reducible refine QG9 ?_);refine⟨[[.it .i64 x.b0]],⟨by decide+kernel,rfl,by simp,rfl,by decide+kernel⟩,JD.vec ⟨by with_unfolding_all exact rfl,?_⟩⟩)|with_reducible refine X0 QA mixed [0] riT (by decide+kernel) ?_|with_reducible exact trivial|with_reducible refine Br.mk ?_ ?_|((with_reducible refine CallE.id ?_);first|refine cEk hn ?_|refine CallE.inl ?_)|((with_reducible refine CallI.id ?_);first|with_reducible refine CallI.inl QA QLk rfl ?_|with_reducible refine CallI.inl QA QLm rfl ?_|with_reducible refine CallI.inl QA QLo rfl ?_|with_reducible refine CallI.inl QA QLl rfl ?_|with_reducible refine CallI.inl QA QLn rfl ?_|refine CallI.byM (QBU _ _ [x.b0] (bll rfl) (bll rfl)) (by with_unfolding_all exact rfl) rfl ?_|refine CallI.byM (Y1 _ _ 1 (X5 [x.b0]) (by simp[X5]) (bll rfl) (bll rfl)) (by with_unfolding_all exact rfl) rfl ?_)|with_reducible refine ZA.unroll QA 5 ?_|refine QB ?_|intro x hx hu|intro h|refine Spp.mk ?_ ?_))
 all_goals try exact XH (by unfold RI;omega)
 all_goals (conv=>whnf)
 all_goals refine QAv (W4 (show _↔_ by omega) (hd.trans ?_))
 all_goals (unfold RI;simp only[vj,zm,xm,wz,not_or,or_false,false_or,not_false_eq_true,and_true,true_iff,wz,true_and];omega)
theorem ri2(x:Ino)(hk:x.k=1)(h1:0≤x.z)(h2:x.z≤128)(hz:(x.z+31)/32=2)(hd:((Lib.compact (X5 [x.b0,x.b1])).length=2↔[x.b0,x.b1].Nodup)):FnC Tryz.prog 225 [.dg 6 (Za x)] (.d (.bl (decide (RI x)))):=by
 refine QL QKt ?_
 have hn:=QBT x.z h1 h2
 rw[hz]at hn
 (repeat' ((conv=>whnf);first|((with_reducible refine QG9 ?_);refine⟨[[.it .i64 x.b0],[.it .i64 x.b1]],⟨by decide+kernel,rfl,by simp,rfl,by decide+kernel⟩,JD.vec ⟨by with_unfolding_all exact rfl,?_⟩⟩)|with_reducible refine X0 QA mixed [0] riT (by decide+kernel) ?_|with_reducible exact trivial|with_reducible refine Br.mk ?_ ?_|((with_reducible refine CallE.id ?_);first|refine cEk hn ?_|refine CallE.inl ?_)|((with_reducible refine CallI.id ?_);first|with_reducible refine CallI.inl QA QLk rfl ?_|with_reducible refine CallI.inl QA QLm rfl ?_|with_reducible refine CallI.inl QA QLo rfl ?_|with_reducible refine CallI.inl QA QLl rfl ?_|with_reducible refine CallI.inl QA QLn rfl ?_|refine CallI.byM (QBU _ _ [x.b0,x.b1] (bll rfl) (bll rfl)) (by with_unfolding_all exact rfl) rfl ?_|refine CallI.byM (Y1 _ _ 2 (X5 [x.b0,x.b1]) (by simp[X5]) (bll rfl) (bll rfl)) (by with_unfolding_all exact rfl) rfl ?_)|with_reducible refine ZA.unroll QA 5 ?_|refine QB ?_|intro x hx hu|intro h|refine Spp.mk ?_ ?_))
 all_goals try exact XH (by unfold RI;omega)
 all_goals (conv=>whnf)
 all_goals refine QAv (W4 (show _↔_ by omega) (hd.trans ?_))
 all_goals (unfold RI;simp only[vj,zm,xm,wz,not_or,or_false,false_or,not_false_eq_true,and_true,true_iff,wz,true_and];omega)
theorem ri3(x:Ino)(hk:x.k=1)(h1:0≤x.z)(h2:x.z≤128)(hz:(x.z+31)/32=3)(hd:((Lib.compact (X5 [x.b0,x.b1,x.b2])).length=3↔[x.b0,x.b1,x.b2].Nodup)):FnC Tryz.prog 225 [.dg 6 (Za x)] (.d (.bl (decide (RI x)))):=by
 refine QL QKt ?_
 have hn:=QBT x.z h1 h2
 rw[hz]at hn
 (repeat' ((conv=>whnf);first|((with_reducible refine QG9 ?_);refine⟨[[.it .i64 x.b0],[.it .i64 x.b1],[.it .i64 x.b2]],⟨by decide+kernel,rfl,by simp,rfl,by decide+kernel⟩,JD.vec ⟨by with_unfolding_all exact rfl,?_⟩⟩)|with_reducible refine X0 QA mixed [0] riT (by decide+kernel) ?_|with_reducible exact trivial|with_reducible refine Br.mk ?_ ?_|((with_reducible refine CallE.id ?_);first|refine cEk hn ?_|refine CallE.inl ?_)|((with_reducible refine CallI.id ?_);first|with_reducible refine CallI.inl QA QLk rfl ?_|with_reducible refine CallI.inl QA QLm rfl ?_|with_reducible refine CallI.inl QA QLo rfl ?_|with_reducible refine CallI.inl QA QLl rfl ?_|with_reducible refine CallI.inl QA QLn rfl ?_|refine CallI.byM (QBU _ _ [x.b0,x.b1,x.b2] (bll rfl) (bll rfl)) (by with_unfolding_all exact rfl) rfl ?_|refine CallI.byM (Y1 _ _ 3 (X5 [x.b0,x.b1,x.b2]) (by simp[X5]) (bll rfl) (bll rfl)) (by with_unfolding_all exact rfl) rfl ?_)|with_reducible refine ZA.unroll QA 5 ?_|refine QB ?_|intro x hx hu|intro h|refine Spp.mk ?_ ?_))
 all_goals try exact XH (by unfold RI;omega)
 all_goals (conv=>whnf)
 all_goals refine QAv (W4 (show _↔_ by omega) (hd.trans ?_))
 all_goals (unfold RI;simp only[vj,zm,xm,wz,not_or,or_false,false_or,not_false_eq_true,and_true,true_iff,wz,true_and];omega)
theorem ri4(x:Ino)(hk:x.k=1)(h1:0≤x.z)(h2:x.z≤128)(hz:(x.z+31)/32=4)(hd:((Lib.compact (X5 [x.b0,x.b1,x.b2,x.b3])).length=4↔[x.b0,x.b1,x.b2,x.b3].Nodup)):FnC Tryz.prog 225 [.dg 6 (Za x)] (.d (.bl (decide (RI x)))):=by
 refine QL QKt ?_
 have hn:=QBT x.z h1 h2
 rw[hz]at hn
 (repeat' ((conv=>whnf);first|((with_reducible refine QG9 ?_);refine⟨[[.it .i64 x.b0],[.it .i64 x.b1],[.it .i64 x.b2],[.it .i64 x.b3]],⟨by decide+kernel,rfl,by simp,rfl,by decide+kernel⟩,JD.vec ⟨by with_unfolding_all exact rfl,?_⟩⟩)|with_reducible refine X0 QA mixed [0] riT (by decide+kernel) ?_|with_reducible exact trivial|with_reducible refine Br.mk ?_ ?_|((with_reducible refine CallE.id ?_);first|refine cEk hn ?_|refine CallE.inl ?_)|((with_reducible refine CallI.id ?_);first|with_reducible refine CallI.inl QA QLk rfl ?_|with_reducible refine CallI.inl QA QLm rfl ?_|with_reducible refine CallI.inl QA QLo rfl ?_|with_reducible refine CallI.inl QA QLl rfl ?_|with_reducible refine CallI.inl QA QLn rfl ?_|refine CallI.byM (QBU _ _ [x.b0,x.b1,x.b2,x.b3] (bll rfl) (bll rfl)) (by with_unfolding_all exact rfl) rfl ?_|refine CallI.byM (Y1 _ _ 4 (X5 [x.b0,x.b1,x.b2,x.b3]) (by simp[X5]) (bll rfl) (bll rfl)) (by with_unfolding_all exact rfl) rfl ?_)|with_reducible refine ZA.unroll QA 5 ?_|refine QB ?_|intro x hx hu|intro h|refine Spp.mk ?_ ?_))
 all_goals try exact XH (by unfold RI;omega)
 all_goals (conv=>whnf)
 all_goals refine QAv (W4 (show _↔_ by omega) (hd.trans ?_))
 all_goals (unfold RI;simp only[vj,zm,xm,wz,not_or,or_false,false_or,not_false_eq_true,and_true,true_iff,wz,true_and];omega)
theorem QKy(l:List Int):(X5 l).length=l.length:=ko _
theorem QIi(l:List Int):(X5 l).Perm l:=List.mergeSort_perm _ _
theorem QL4(l:List Int):(X5 l).Pairwise (· ≤ ·):=by
 have:=Wd (le:=fun x y:Int=>decide (x≤y)) (fun a b c h1 h2=>by simp only[decide_eq_true_eq]at*;omega) (fun a b=>by simp only[wb,decide_eq_true_eq];omega) l
 exact this.imp fun h=>by simpa using h
theorem QHA{zs:List Int}(h:zs.Pairwise (· ≤ ·)):(Lib.compact zs).length=zs.length↔zs.Nodup:=by
 have e:(Lib.compact zs).length=zs.length↔∀j,j<zs.length→Lib.keeps zs.toArray j=true:=by
  unfold Lib.compact Lib.compactUpTo
  rw[zb]
  constructor
  ·intro hl j hj
   have hl2:((List.range zs.length).filter (Lib.keeps zs.toArray)).length=(List.range zs.length).length:=by rw[hl,xl]
   exact List.length_filter_eq_length_iff.1 hl2 j (y4.2 hj)
  ·intro hk
   rw[List.filter_eq_self.2 (fun j hj=>hk j (y4.1 hj)),xl]
 rw[e]
 have hle:=v8.1 h
 constructor
 ·intro hk
  refine v8.2 fun i j hi hj hij=>?_
  have h1:=hk j hj
  simp only[Lib.keeps,decide_eq_true_eq]at h1
  have h2:zs[j]≠zs[j-1]'(by omega):=by
   rcases h1 with h1|h1
   ·omega
   ·simpa [show j<zs.length from hj,show j-1<zs.length by omega]using h1
  have h3:=hle (j-1) j (by omega) hj (by omega)
  by_cases h4:i=j-1
  ·subst h4;exact w8 h2
  ·have h5:=hle i (j-1) hi (by omega) (by omega)
   omega
 ·intro hn j hj
  simp only[Lib.keeps,decide_eq_true_eq]
  rcases jg j with h0|h0
  ·exact .inl h0
  ·right
   have:=v8.1 hn (j-1) j (by omega) hj (by omega)
   simpa [show j<zs.length from hj,show j-1<zs.length by omega]using w8 this
theorem Jb(l:List Int){n:Nat}(hl:l.length=n):(Lib.compact (X5 l)).length=n↔l.Nodup:=by
 rw[←hl,←QKy l,QHA (QL4 l)]
 exact(QIi l).nodup_iff
theorem QUG(a b c d e f a' b' c' d' e' f':Int):JT [.it .i64 a,.it .i64 b,.it .i64 c,.it .i64 d,.it .i64 e,.it .i64 f] [.it .i64 a',.it .i64 b',.it .i64 c',.it .i64 d',.it .i64 e',.it .i64 f']=decide (a=a'∧b=b'∧c=c'∧d=d'∧e=e'∧f=f'):=by
 rw[wc];simp[JT,eqD]
theorem riK(x:Ino)(hk:x.k≠1∨x.z<0∨128<x.z):FnC Tryz.prog 225 [.dg 6 (Za x)] (.d (.bl (decide (RI x)))):=by
 refine QL QKt ?_
 (repeat' ((conv=>whnf);first|refine QB ?_|intro x hx hu|intro h|refine Spp.mk ?_ ?_))
 all_goals first
  |exact XH (by unfold RI;omega)
  |exact QP3 (QUG _ _ _ _ _ _ _ _ _ _ _ _) (QAv (by unfold RI;omega))
theorem ri0(x:Ino)(hk:x.k=1)(h0:x.z=0):FnC Tryz.prog 225 [.dg 6 (Za x)] (.d (.bl (decide (RI x)))):=by
 refine QL QKt ?_
 have hn:=QBT x.z (by omega) (by omega)
 rw[show(x.z+31)/32=0 by omega]at hn
 have hl:=QQa 0 (by decide)
 (repeat' ((conv=>whnf);first|((with_reducible refine QG9 ?_);refine⟨[],⟨by decide+kernel,rfl,by simp,rfl,by decide+kernel⟩,JD.vec ⟨by with_unfolding_all exact rfl,?_⟩⟩)|with_reducible refine X0 QA mixed [0] riT (by decide+kernel) ?_|with_reducible exact trivial|with_reducible refine Br.mk ?_ ?_|((with_reducible refine CallE.id ?_);first|refine cEk hn ?_|refine cEk hl ?_|refine CallE.inl ?_)|((with_reducible refine CallI.id ?_);first|with_reducible refine CallI.inl QA QLk rfl ?_|with_reducible refine CallI.inl QA QLm rfl ?_|with_reducible refine CallI.inl QA QLo rfl ?_|with_reducible refine CallI.inl QA QLl rfl ?_|with_reducible refine CallI.inl QA QLn rfl ?_|with_reducible refine CallI.inl QA QT5 rfl ?_|with_reducible refine CallI.inl QA QT7 rfl ?_|with_reducible refine CallI.inl QA QT8 rfl ?_|with_reducible refine CallI.inl QA QT6 rfl ?_)|with_reducible refine ZA.unroll QA 5 ?_|refine QB ?_|intro x hx hu|intro h|refine Spp.mk ?_ ?_))
 all_goals first
  |exact XH (by unfold RI;omega)
  |exact QCh (by unfold RI;omega)
theorem QSL(x:Ino):FnC Tryz.prog 225 [.dg 6 (Za x)] (.d (.bl (decide (RI x)))):=by
 by_cases hk:x.k=1∧0≤x.z∧x.z≤128
 ·obtain ⟨hk,h0,h1⟩:=hk
  rcases(by omega:x.z=0∨(x.z+31)/32=1∨(x.z+31)/32=2∨(x.z+31)/32=3∨(x.z+31)/32=4)with h|h|h|h|h
  ·exact ri0 x hk h
  ·exact ri1 x hk h0 h1 h (Jb _ rfl)
  ·exact ri2 x hk h0 h1 h (Jb _ rfl)
  ·exact ri3 x hk h0 h1 h (Jb _ rfl)
  ·exact ri4 x hk h0 h1 h (Jb _ rfl)
 ·exact riK x (by omega)
def Ju(x:Ino):List Int:=[x.k,x.z,x.b0,x.b1,x.b2,x.b3,0,0,0,0,0,0,0,0,0,0,0,0,0,0,0,0,0,0,0,0,0,0,0,0,0,0]
def by8(n:Int):UInt8:=UInt8.ofNat n.toNat
def QC5(x:Ino):List UInt8:=(Ju x).map by8
def QL5(l:List Int):List D:=l.map (fun n=> .it .u8 n)
theorem QQb{n:Int}(h:0≤n∧n<256):((by8 n).toNat:Int)=n:=by
 unfold by8
 rw[UInt8.toNat_ofNat']
 omega
theorem QFy:∀ {l:List Int},(∀n∈l,0≤n∧n<256)→QL5 l=QJ (l.map by8)
 |[],_=>rfl
 |n::l,h=>by
  show D.it .u8 n::QL5 l=D.it .u8 (by8 n).toNat::QJ (l.map by8)
  rw[QQb (h n zu),QFy fun m hm=>h m (zr _ hm)]
theorem QDF{x:Ino}(h:RI x):∀n∈Ju x,0≤n∧n<256:=by
 intro n hn
 unfold RI at h
 simp only[Ju,zm,xm,or_false]at hn
 omega
def QEc(x:Ino):AV:=if RI x then .tup [.dg 32 (QL5 (Ju x)),.d (.bl true)]else .tup [.dg 32 (QJ Qh),.d (.bl false)]
def QUH:Tr:=(.cons 0 (.cons 1 (.cons 2 (.cons 3 (.cons 4 (.cons 5 (.cons 6 (.cons 7 (.cons 8 (.cons 9 .nil .nil) .nil) .nil) .nil) (.cons 6 (.cons 5 (.cons 7 (.cons 8 (.cons 9 .nil .nil) .nil) .nil) (.cons 7 (.cons 5 (.cons 8 (.cons 9 .nil .nil) .nil) .nil) .nil)) .nil)) (.cons 6 (.cons 4 (.cons 5 (.cons 7 (.cons 8 (.cons 9 .nil .nil) .nil) .nil) (.cons 7 (.cons 5 (.cons 8 (.cons 9 .nil .nil) .nil) .nil) .nil)) (.cons 7 (.cons 4 (.cons 5 (.cons 8 (.cons 9 .nil .nil) .nil) .nil) .nil) .nil)) .nil)) (.cons 6 (.cons 3 (.cons 4 (.cons 5 (.cons 7 (.cons 8 (.cons 9 .nil .nil) .nil) .nil) (.cons 7 (.cons 5 (.cons 8 (.cons 9 .nil .nil) .nil) .nil) .nil)) (.cons 7 (.cons 4 (.cons 5 (.cons 8 (.cons 9 .nil .nil) .nil) .nil) .nil) .nil)) (.cons 7 (.cons 3 (.cons 4 (.cons 5 (.cons 8 (.cons 9 .nil .nil) .nil) .nil) .nil) .nil) .nil)) .nil)) (.cons 3 (.cons 2 (.cons 4 (.cons 5 (.cons 6 (.cons 7 (.cons 8 (.cons 9 .nil .nil) .nil) .nil) .nil) (.cons 6 (.cons 5 (.cons 7 (.cons 8 (.cons 9 .nil .nil) .nil) .nil) (.cons 7 (.cons 5 (.cons 8 (.cons 9 .nil .nil) .nil) .nil) .nil)) .nil)) (.cons 6 (.cons 4 (.cons 5 (.cons 7 (.cons 8 (.cons 9 .nil .nil) .nil) .nil) (.cons 7 (.cons 5 (.cons 8 (.cons 9 .nil .nil) .nil) .nil) .nil)) (.cons 7 (.cons 4 (.cons 5 (.cons 8 (.cons 9 .nil .nil) .nil) .nil) .nil) .nil)) .nil)) (.cons 4 (.cons 2 (.cons 5 (.cons 6 (.cons 7 (.cons 8 (.cons 9 .nil .nil) .nil) .nil) .nil) (.cons 6 (.cons 5 (.cons 7 (.cons 8 (.cons 9 .nil .nil) .nil) .nil) (.cons 7 (.cons 5 (.cons 8 (.cons 9 .nil .nil) .nil) .nil) .nil)) .nil)) (.cons 5 (.cons 2 (.cons 6 (.cons 7 (.cons 8 (.cons 9 .nil .nil) .nil) .nil) .nil) .nil) .nil)) .nil)) .nil)) (.cons 3 (.cons 1 (.cons 2 (.cons 4 (.cons 5 (.cons 6 (.cons 7 (.cons 8 (.cons 9 .nil .nil) .nil) .nil) .nil) (.cons 6 (.cons 5 (.cons 7 (.cons 8 (.cons 9 .nil .nil) .nil) .nil) (.cons 7 (.cons 5 (.cons 8 (.cons 9 .nil .nil) .nil) .nil) .nil)) .nil)) (.cons 6 (.cons 4 (.cons 5 (.cons 7 (.cons 8 (.cons 9 .nil .nil) .nil) .nil) (.cons 7 (.cons 5 (.cons 8 (.cons 9 .nil .nil) .nil) .nil) .nil)) (.cons 7 (.cons 4 (.cons 5 (.cons 8 (.cons 9 .nil .nil) .nil) .nil) .nil) .nil)) .nil)) (.cons 4 (.cons 2 (.cons 5 (.cons 6 (.cons 7 (.cons 8 (.cons 9 .nil .nil) .nil) .nil) .nil) (.cons 6 (.cons 5 (.cons 7 (.cons 8 (.cons 9 .nil .nil) .nil) .nil) (.cons 7 (.cons 5 (.cons 8 (.cons 9 .nil .nil) .nil) .nil) .nil)) .nil)) (.cons 5 (.cons 2 (.cons 6 (.cons 7 (.cons 8 (.cons 9 .nil .nil) .nil) .nil) .nil) .nil) .nil)) .nil)) (.cons 4 (.cons 1 (.cons 2 (.cons 5 (.cons 6 (.cons 7 (.cons 8 (.cons 9 .nil .nil) .nil) .nil) .nil) (.cons 6 (.cons 5 (.cons 7 (.cons 8 (.cons 9 .nil .nil) .nil) .nil) (.cons 7 (.cons 5 (.cons 8 (.cons 9 .nil .nil) .nil) .nil) .nil)) .nil)) (.cons 5 (.cons 2 (.cons 6 (.cons 7 (.cons 8 (.cons 9 .nil .nil) .nil) .nil) .nil) .nil) .nil)) (.cons 5 (.cons 1 (.cons 2 (.cons 6 (.cons 7 (.cons 8 (.cons 9 .nil .nil) .nil) .nil) .nil) .nil) .nil) .nil)) .nil)) .nil)) (.cons 3 (.cons 0 (.cons 1 (.cons 2 (.cons 4 (.cons 5 (.cons 6 (.cons 7 (.cons 8 (.cons 9 .nil .nil) .nil) .nil) .nil) (.cons 6 (.cons 5 (.cons 7 (.cons 8 (.cons 9 .nil .nil) .nil) .nil) (.cons 7 (.cons 5 (.cons 8 (.cons 9 .nil .nil) .nil) .nil) .nil)) .nil)) (.cons 6 (.cons 4 (.cons 5 (.cons 7 (.cons 8 (.cons 9 .nil .nil) .nil) .nil) (.cons 7 (.cons 5 (.cons 8 (.cons 9 .nil .nil) .nil) .nil) .nil)) (.cons 7 (.cons 4 (.cons 5 (.cons 8 (.cons 9 .nil .nil) .nil) .nil) .nil) .nil)) .nil)) (.cons 4 (.cons 2 (.cons 5 (.cons 6 (.cons 7 (.cons 8 (.cons 9 .nil .nil) .nil) .nil) .nil) (.cons 6 (.cons 5 (.cons 7 (.cons 8 (.cons 9 .nil .nil) .nil) .nil) (.cons 7 (.cons 5 (.cons 8 (.cons 9 .nil .nil) .nil) .nil) .nil)) .nil)) (.cons 5 (.cons 2 (.cons 6 (.cons 7 (.cons 8 (.cons 9 .nil .nil) .nil) .nil) .nil) .nil) .nil)) .nil)) (.cons 4 (.cons 1 (.cons 2 (.cons 5 (.cons 6 (.cons 7 (.cons 8 (.cons 9 .nil .nil) .nil) .nil) .nil) (.cons 6 (.cons 5 (.cons 7 (.cons 8 (.cons 9 .nil .nil) .nil) .nil) (.cons 7 (.cons 5 (.cons 8 (.cons 9 .nil .nil) .nil) .nil) .nil)) .nil)) (.cons 5 (.cons 2 (.cons 6 (.cons 7 (.cons 8 (.cons 9 .nil .nil) .nil) .nil) .nil) .nil) .nil)) (.cons 5 (.cons 1 (.cons 2 (.cons 6 (.cons 7 (.cons 8 (.cons 9 .nil .nil) .nil) .nil) .nil) .nil) .nil) .nil)) .nil)) (.cons 4 (.cons 0 (.cons 1 (.cons 2 (.cons 5 (.cons 6 (.cons 7 (.cons 8 (.cons 9 .nil .nil) .nil) .nil) .nil) (.cons 6 (.cons 5 (.cons 7 (.cons 8 (.cons 9 .nil .nil) .nil) .nil) (.cons 7 (.cons 5 (.cons 8 (.cons 9 .nil .nil) .nil) .nil) .nil)) .nil)) (.cons 5 (.cons 2 (.cons 6 (.cons 7 (.cons 8 (.cons 9 .nil .nil) .nil) .nil) .nil) .nil) .nil)) (.cons 5 (.cons 1 (.cons 2 (.cons 6 (.cons 7 (.cons 8 (.cons 9 .nil .nil) .nil) .nil) .nil) .nil) .nil) .nil)) (.cons 5 (.cons 0 (.cons 1 (.cons 2 (.cons 6 (.cons 7 (.cons 8 (.cons 9 .nil .nil) .nil) .nil) .nil) .nil) .nil) .nil) .nil)) .nil)) .nil))
theorem QL6(x:Ino):FnC Tryz.prog 180 [.dg 6 (Za x)] (QEc x):=by
 have hr:=QSL x
 unfold QEc
 by_cases h:RI x
 ·rw [if_pos h]
  rw[decide_eq_true h]at hr
  have hb:=QDF h
  have b0:=hb x.k (by simp[Ju])
  have b1:=hb x.z (by simp[Ju])
  have b2:=hb x.b0 (by simp[Ju])
  have b3:=hb x.b1 (by simp[Ju])
  have b4:=hb x.b2 (by simp[Ju])
  have b5:=hb x.b3 (by simp[Ju])
  clear hb
  refine QL QR4 ?_
  (repeat' ((conv=>whnf);first|((with_reducible refine CallE.id ?_);refine cEk hr ?_)|with_reducible refine AtA.mk' ?_|refine QB ?_|intro x hx hu|intro h|refine Spp.mk ?_ ?_))
  refine QX.join ⟨[(1,.ptr 0 0),(2,.ptr 1 0),(3,.d (.bl false)),(4,.ptr 2 0)],[(0,.cells 6 ((Za x).map .d)),(1,.cells 32 ((QJ Qh).map .d)),(2,.cells 32 ((QL5 (x.k::x.z::List.replicate 30 0)).map .d))],3⟩ (X0 QA mixed [] QUH (by decide+kernel) ?_) ?_
  ·(repeat' ((conv=>whnf);first|with_reducible refine Br.mk ?_ ?_|with_reducible exact trivial|refine QB ?_|intro x hx hu|intro h|refine Spp.mk ?_ ?_))
   all_goals exact Wk.e
  (repeat' ((conv=>whnf);first|with_reducible refine ZA.unroll QA 5 ?_|with_reducible refine AtA.mk' ?_|refine QB ?_|intro x hx hu|intro h|refine Spp.mk ?_ ?_))
  all_goals rfl
 ·rw [if_neg h]
  rw[decide_eq_false h]at hr
  refine QL QR4 ?_
  (repeat' ((conv=>whnf);first|((with_reducible refine CallE.id ?_);refine cEk hr ?_)|with_reducible refine AtA.mk' ?_|refine QB ?_|intro x hx hu|intro h|refine Spp.mk ?_ ?_))
  all_goals rfl
def Zb(s:List UInt8):Ino:=⟨(s.getD 0 0).toNat,(s.getD 1 0).toNat,(s.getD 2 0).toNat,(s.getD 3 0).toNat,(s.getD 4 0).toNat,(s.getD 5 0).toNat⟩
def QFz:Ino:=⟨0,0,0,0,0,0⟩
def QB8(s:List UInt8):AV:=if RI (Zb s)∧s=QC5 (Zb s)then .tup [.dg 6 (Za (Zb s)),.d (.bl true)]else .tup [.dg 6 (Za QFz),.d (.bl false)]
theorem QN{s:List UInt8}(hs:s.length=32)(k:Nat)(hk:k<32):s[k]? =some (s.getD k 0):=by
 rw[zk,zi (by omega)];rfl
theorem QHB(s:List UInt8)(hs:s.length=32):FnC Tryz.prog 155 [.dg 32 (QJ s)] (QB8 s):=by
 have hi:=QL6 (Zb s)
 unfold QB8
 have c0:=(s.getD 0 0).toNat_lt
 have c1:=(s.getD 1 0).toNat_lt
 have c2:=(s.getD 2 0).toNat_lt
 have c3:=(s.getD 3 0).toNat_lt
 have c4:=(s.getD 4 0).toNat_lt
 have c5:=(s.getD 5 0).toNat_lt
 by_cases h:RI (Zb s)
 ·rw [QEc,if_pos h,QFy (QDF h)]at hi
  have hil:(QC5 (Zb s)).length=32:=rfl
  have he:=eqS s (QC5 (Zb s)) hs
  by_cases h2:s=QC5 (Zb s)
  ·rw [decide_eq_true h2]at he
   rw[if_pos ⟨h,h2⟩]
   refine QL QQQ ?_
   (repeat' ((conv=>whnf);first|((with_reducible refine CallE.id ?_);refine cEk hi ?_)|with_reducible refine ZA.unroll QA 5 ?_|refine AtA.eq (QM rfl (QN hs 0 (by decide))) ?_|refine AtA.eq (QM rfl (QN hs 1 (by decide))) ?_|refine AtA.eq (QM rfl (QN hs 2 (by decide))) ?_|refine AtA.eq (QM rfl (QN hs 3 (by decide))) ?_|refine AtA.eq (QM rfl (QN hs 4 (by decide))) ?_|refine AtA.eq (QM rfl (QN hs 5 (by decide))) ?_|refine AtA.eq (Ql rfl rfl hs) ?_|refine AtA.eq (Ql rfl rfl hil) ?_|refine ZM (Zw _ _ hs hil) ?_|refine QB ?_|intro x hx hu|intro h|refine Spp.mk ?_ ?_))
   all_goals rfl
  ·rw [decide_eq_false h2]at he
   rw[if_neg (fun q=>h2 q.2)]
   refine QL QQQ ?_
   (repeat' ((conv=>whnf);first|((with_reducible refine CallE.id ?_);refine cEk hi ?_)|with_reducible refine ZA.unroll QA 5 ?_|refine AtA.eq (QM rfl (QN hs 0 (by decide))) ?_|refine AtA.eq (QM rfl (QN hs 1 (by decide))) ?_|refine AtA.eq (QM rfl (QN hs 2 (by decide))) ?_|refine AtA.eq (QM rfl (QN hs 3 (by decide))) ?_|refine AtA.eq (QM rfl (QN hs 4 (by decide))) ?_|refine AtA.eq (QM rfl (QN hs 5 (by decide))) ?_|refine AtA.eq (Ql rfl rfl hs) ?_|refine AtA.eq (Ql rfl rfl hil) ?_|refine ZM (Zw _ _ hs hil) ?_|refine QB ?_|intro x hx hu|intro h|refine Spp.mk ?_ ?_))
   all_goals rfl
 ·rw [QEc,if_neg h]at hi
  have hil:Qh.length=32:=rfl
  rw[if_neg (fun q=>h q.1)]
  refine QL QQQ ?_
  (repeat' ((conv=>whnf);first|((with_reducible refine CallE.id ?_);refine cEk hi ?_)|with_reducible refine ZA.unroll QA 5 ?_|refine AtA.eq (QM rfl (QN hs 0 (by decide))) ?_|refine AtA.eq (QM rfl (QN hs 1 (by decide))) ?_|refine AtA.eq (QM rfl (QN hs 2 (by decide))) ?_|refine AtA.eq (QM rfl (QN hs 3 (by decide))) ?_|refine AtA.eq (QM rfl (QN hs 4 (by decide))) ?_|refine AtA.eq (QM rfl (QN hs 5 (by decide))) ?_|refine AtA.eq (Ql rfl rfl hs) ?_|refine AtA.eq (Ql rfl rfl hil) ?_|refine ZM (Zw _ _ hs hil) ?_|refine QB ?_|intro x hx hu|intro h|refine Spp.mk ?_ ?_))
  all_goals rfl
theorem QE7(x:Ino):FnC Tryz.prog 133 [.dg 6 (Za x)] (QEc x):=by
 have hr:=QL2 x
 unfold QEc
 by_cases h:RI x
 ·rw [if_pos h]
  rw[decide_eq_true h]at hr
  have hb:=QDF h
  have b0:=hb x.k (by simp[Ju])
  have b1:=hb x.z (by simp[Ju])
  have b2:=hb x.b0 (by simp[Ju])
  have b3:=hb x.b1 (by simp[Ju])
  have b4:=hb x.b2 (by simp[Ju])
  have b5:=hb x.b3 (by simp[Ju])
  clear hb
  refine QL QRu ?_
  (repeat' ((conv=>whnf);first|((with_reducible refine CallE.id ?_);refine cEk hr ?_)|with_reducible refine ZA.unroll QA 5 ?_|with_reducible refine AtA.mk' ?_|refine QB ?_|intro x hx hu|intro h|refine Spp.mk ?_ ?_))
  all_goals rfl
 ·rw [if_neg h]
  rw[decide_eq_false h]at hr
  refine QL QRu ?_
  (repeat' ((conv=>whnf);first|((with_reducible refine CallE.id ?_);refine cEk hr ?_)|with_reducible refine AtA.mk' ?_|refine QB ?_|intro x hx hu|intro h|refine Spp.mk ?_ ?_))
  all_goals rfl
theorem QCi(s:List UInt8)(hs:s.length=32):FnC Tryz.prog 131 [.dg 32 (QJ s)] (QB8 s):=by
 have hi:=QE7 (Zb s)
 unfold QB8
 have c0:=(s.getD 0 0).toNat_lt
 have c1:=(s.getD 1 0).toNat_lt
 have c2:=(s.getD 2 0).toNat_lt
 have c3:=(s.getD 3 0).toNat_lt
 have c4:=(s.getD 4 0).toNat_lt
 have c5:=(s.getD 5 0).toNat_lt
 by_cases h:RI (Zb s)
 ·rw [QEc,if_pos h,QFy (QDF h)]at hi
  have hil:(QC5 (Zb s)).length=32:=rfl
  have he:=eqS (QC5 (Zb s)) s hs.symm
  by_cases h2:s=QC5 (Zb s)
  ·rw [decide_eq_true h2.symm]at he
   rw[if_pos ⟨h,h2⟩]
   refine QL i131 ?_
   (repeat' ((conv=>whnf);first|((with_reducible refine CallE.id ?_);refine cEk hi ?_)|with_reducible refine ZA.unroll QA 5 ?_|refine AtA.eq (QM rfl (QN hs 0 (by decide))) ?_|refine AtA.eq (QM rfl (QN hs 1 (by decide))) ?_|refine AtA.eq (QM rfl (QN hs 2 (by decide))) ?_|refine AtA.eq (QM rfl (QN hs 3 (by decide))) ?_|refine AtA.eq (QM rfl (QN hs 4 (by decide))) ?_|refine AtA.eq (QM rfl (QN hs 5 (by decide))) ?_|refine AtA.eq (Ql rfl rfl hs) ?_|refine AtA.eq (Ql rfl rfl hil) ?_|refine ZM (Zw _ _ hil hs) ?_|refine QB ?_|intro x hx hu|intro h|refine Spp.mk ?_ ?_))
   all_goals rfl
  ·rw [decide_eq_false (w8 h2)]at he
   rw[if_neg (fun q=>h2 q.2)]
   refine QL i131 ?_
   (repeat' ((conv=>whnf);first|((with_reducible refine CallE.id ?_);refine cEk hi ?_)|with_reducible refine ZA.unroll QA 5 ?_|refine AtA.eq (QM rfl (QN hs 0 (by decide))) ?_|refine AtA.eq (QM rfl (QN hs 1 (by decide))) ?_|refine AtA.eq (QM rfl (QN hs 2 (by decide))) ?_|refine AtA.eq (QM rfl (QN hs 3 (by decide))) ?_|refine AtA.eq (QM rfl (QN hs 4 (by decide))) ?_|refine AtA.eq (QM rfl (QN hs 5 (by decide))) ?_|refine AtA.eq (Ql rfl rfl hs) ?_|refine AtA.eq (Ql rfl rfl hil) ?_|refine ZM (Zw _ _ hil hs) ?_|refine QB ?_|intro x hx hu|intro h|refine Spp.mk ?_ ?_))
   all_goals rfl
 ·rw [QEc,if_neg h]at hi
  have hil:Qh.length=32:=rfl
  rw[if_neg (fun q=>h q.1)]
  refine QL i131 ?_
  (repeat' ((conv=>whnf);first|((with_reducible refine CallE.id ?_);refine cEk hi ?_)|with_reducible refine ZA.unroll QA 5 ?_|refine AtA.eq (QM rfl (QN hs 0 (by decide))) ?_|refine AtA.eq (QM rfl (QN hs 1 (by decide))) ?_|refine AtA.eq (QM rfl (QN hs 2 (by decide))) ?_|refine AtA.eq (QM rfl (QN hs 3 (by decide))) ?_|refine AtA.eq (QM rfl (QN hs 4 (by decide))) ?_|refine AtA.eq (QM rfl (QN hs 5 (by decide))) ?_|refine AtA.eq (Ql rfl rfl hs) ?_|refine AtA.eq (Ql rfl rfl hil) ?_|refine ZM (Zw _ _ hil hs) ?_|refine QB ?_|intro x hx hu|intro h|refine Spp.mk ?_ ?_))
  all_goals rfl
end Go.Proofs.YtikgcbioagmkkaaGreatDoor
