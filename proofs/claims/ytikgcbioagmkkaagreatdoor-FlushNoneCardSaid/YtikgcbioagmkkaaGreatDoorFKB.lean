/- Contracts of the functions that the law reaches, and the law. Conditions: none. -/
import Derived.Test.YtikgcbioagmkkaaGreatDoorFKA
import Derived.Test.YtikgcbioagmkkaaGreatDoorFSC
import Derived.Lib.RowBridge
set_option maxRecDepth 100000
set_option linter.all false
set_option maxHeartbeats 16000000
namespace Go.Proofs.YtikgcbioagmkkaaGreatDoor
open Go.Sy
structure Ino where
 k:Int
 z:Int
 b0:Int
 b1:Int
 b2:Int
 b3:Int
deriving DecidableEq
def Xc(x:Ino):List D:=[.it .i64 x.k,.it .i64 x.z,.it .i64 x.b0,.it .i64 x.b1,.it .i64 x.b2,.it .i64 x.b3]
def RI(x:Ino):Prop:=(x.k=0∨x.k=2)∧x.z=0∧x.b0=0∧x.b1=0∧x.b2=0∧x.b3=0∨
 x.k=1∧0≤x.z∧x.z≤128∧(0<x.z→1≤x.b0∧x.b0≤24)∧(x.z≤0→x.b0=0)∧(32<x.z→1≤x.b1∧x.b1≤24∧x.b1≠x.b0)∧(x.z≤32→x.b1=0)∧
 (64<x.z→1≤x.b2∧x.b2≤24∧x.b2≠x.b0∧x.b2≠x.b1)∧(x.z≤64→x.b2=0)∧(96<x.z→1≤x.b3∧x.b3≤24∧x.b3≠x.b0∧x.b3≠x.b1∧x.b3≠x.b2)∧(x.z≤96→x.b3=0)
instance(x:Ino):Decidable (RI x):=by unfold RI;infer_instance
theorem QAc(z:Int)(h0:0≤z)(h1:z≤128):FnC Tryz.prog 255 [.d (.it .i64 z)] (.d (.it .i64 ((z+31)/32))):=by
 refine QL QRP ?_
 (repeat' ((conv=>whnf);first|refine QB ?_|intro x hx hu|intro h|refine Spp.mk ?_ ?_))
 all_goals exact QW (by omega)
theorem QPq{e:Bool}{p:Prop} [Decidable p](h:e=true↔p):AV.d (.bl e)=AV.d (.bl (decide p)):=by
 have:e=decide p:=by rw[xw,h,decide_eq_true_eq]
 rw[this]
theorem JO{p:Prop} [Decidable p](h:¬p):AV.d (.bl false)=AV.d (.bl (decide p)):=by rw[decide_eq_false h]
theorem QPr{p:Prop} [Decidable p](h:p):AV.d (.bl true)=AV.d (.bl (decide p)):=by rw[decide_eq_true h]
theorem QBF{p q:Prop} [Decidable p] [Decidable q](h:p↔q):AV.d (.bl (decide p))=AV.d (.bl (decide q)):=by
 have:decide p=decide q:=by rw[xw,decide_eq_true_eq,decide_eq_true_eq,h]
 rw[this]
theorem QPs{a b:Bool}{v:AV}(h:a=b)(h2:AV.d (.bl b)=v):AV.d (.bl a)=v:=by rw[h,h2]
def QPt(n:Nat):Int:=if n=0 then 0 else if n=1 then 1 else if n<4 then 2 else 3
theorem QKW(n:Nat)(hn:n≤4):FnC Tryz.prog 252 [.d (.it .u64 n)] (.d (.it .i64 (QPt n))):=by
 refine QL QRN ?_
 match n,hn with
 |0,_=>
  (repeat' ((conv=>whnf);first|refine QBb (x:=(0:UInt8)) (by decide+kernel) (by decide+kernel) ?_|with_reducible refine Qe.eq 0 (by with_unfolding_all exact rfl) ?_|refine QB ?_|intro x hx hu|intro h|refine Spp.mk ?_ ?_))
  with_unfolding_all exact rfl
 |1,_=>
  (repeat' ((conv=>whnf);first|refine QBb (x:=(1:UInt8)) (by decide+kernel) (by decide+kernel) ?_|with_reducible refine Qe.eq 1 (by with_unfolding_all exact rfl) ?_|refine QB ?_|intro x hx hu|intro h|refine Spp.mk ?_ ?_))
  with_unfolding_all exact rfl
 |2,_=>
  (repeat' ((conv=>whnf);first|refine QBb (x:=(2:UInt8)) (by decide+kernel) (by decide+kernel) ?_|with_reducible refine Qe.eq 2 (by with_unfolding_all exact rfl) ?_|refine QB ?_|intro x hx hu|intro h|refine Spp.mk ?_ ?_))
  with_unfolding_all exact rfl
 |3,_=>
  (repeat' ((conv=>whnf);first|refine QBb (x:=(2:UInt8)) (by decide+kernel) (by decide+kernel) ?_|with_reducible refine Qe.eq 2 (by with_unfolding_all exact rfl) ?_|refine QB ?_|intro x hx hu|intro h|refine Spp.mk ?_ ?_))
  with_unfolding_all exact rfl
 |4,_=>
  (repeat' ((conv=>whnf);first|refine QBb (x:=(3:UInt8)) (by decide+kernel) (by decide+kernel) ?_|with_reducible refine Qe.eq 3 (by with_unfolding_all exact rfl) ?_|refine QB ?_|intro x hx hu|intro h|refine Spp.mk ?_ ?_))
  with_unfolding_all exact rfl
theorem QN9(n:Nat)(hn:n≤4):FnC Tryz.prog 223 [.d (.it .u64 n)] (.d (.it .i64 (QPt n))):=by
 refine QL QRJ ?_
 have h:=QKW n hn
 (repeat' ((conv=>whnf);first|refine cEk h ?_|refine cPk h ?_|refine QB ?_|intro x hx hu|intro h|refine Spp.mk ?_ ?_))
 rfl
def Xd(l:List Int):List Int:=l.mergeSort fun x y=>decide (x≤y)
def vI(l:List Int):List (List D):=l.map fun z=>[.it .i64 z]
theorem QAd(t:Nat)(fl:Bool)(zs:List Int)(h0:0<zs.length)(hsz:zs.length<4611686018427387904):FnM Tryz.prog 259 true [.vx 1 0 0 zs.length] (.vec t 1 (vI zs) fl) (.vec t 1 (vI (Xd zs)) fl) (.tup []):=
 FnM.ofRow (Value.int .i64) (fun z=> .it .i64 z) (fun F x=> .it _ _) (fun F x v h=>by cases h;rfl) (m:=none) (uq _) h0 (fun q h=>by cases h) Tryz.call259 (fun blk off cap w hH hb hc=>(Tryz.slices_Sort_int blk off cap zs w hH hb hsz).mono fun e w' h=>h)
theorem YW(t:Nat)(fl:Bool)(n:Nat)(zs:List Int)(hn:zs.length=n)(h0:0<n)(hsz:n<4611686018427387904):FnM Tryz.prog 260 true [.vx 1 0 0 n] (.vec t 1 (vI zs) fl) (.vec t 1 (vI (Lib.compact zs++List.replicate (zs.length-(Lib.compact zs).length) 0)) fl) (.vx 1 0 0 (Lib.compact zs).length):=by
 subst hn
 exact FnM.ofRow (Value.int .i64) (fun z=> .it .i64 z) (fun F x=> .it _ _) (fun F x v h=>by cases h;rfl) (m:=some (Lib.compact zs).length) (by have:=Lib.compact_length_le zs;simp;omega) h0 (fun q h=>by cases h;exact Lib.compact_length_le zs) Tryz.call260 (fun blk off cap w hH hb hc=>(Tryz.slices_Compact_int blk off cap zs w hH (by omega) hc).mono fun e w' ⟨h1,q,h2⟩=>⟨h1,q,#[],by rw[Go.Sort.grow_empty];exact h2⟩)
theorem QFU{α:Type}{p:α→Prop}(h:∃x,p x):∃x,p x:=h
theorem _root_.Go.Sy.CallE.id{A B:Prop}(h:CallE A B):CallE A B:=h
theorem _root_.Go.Sy.CallI.id{P:Program}{N:Nat}{o:Oper}{σ:S}{f:Nat}{l:List AV}{K:S→Prop}(h:CallI P N o σ f l K):CallI P N o σ f l K:=h
def riT:Tr:=(.cons 0 (.cons 1 (.cons 2 (.cons 3 (.cons 4 (.cons 5 (.cons 6 .nil .nil) .nil) .nil) .nil) .nil) (.cons 2 (.cons 1 (.cons 3 (.cons 4 (.cons 5 (.cons 6 .nil .nil) .nil) .nil) .nil) (.cons 3 (.cons 1 (.cons 4 (.cons 5 (.cons 6 .nil .nil) .nil) .nil) (.cons 4 (.cons 1 (.cons 5 (.cons 6 .nil .nil) .nil) .nil) .nil)) .nil)) .nil)) (.cons 2 (.cons 0 (.cons 1 (.cons 3 (.cons 4 (.cons 5 (.cons 6 .nil .nil) .nil) .nil) .nil) (.cons 3 (.cons 1 (.cons 4 (.cons 5 (.cons 6 .nil .nil) .nil) .nil) (.cons 4 (.cons 1 (.cons 5 (.cons 6 .nil .nil) .nil) .nil) .nil)) .nil)) (.cons 3 (.cons 0 (.cons 1 (.cons 4 (.cons 5 (.cons 6 .nil .nil) .nil) .nil) (.cons 4 (.cons 1 (.cons 5 (.cons 6 .nil .nil) .nil) .nil) .nil)) .nil) .nil)) .nil))
theorem ri1(x:Ino)(hk:x.k=1)(h1:0≤x.z)(h2:x.z≤128)(hz:(x.z+31)/32=1)(hd:((Lib.compact (Xd [x.b0])).length=1↔[x.b0].Nodup)):FnC Tryz.prog 225 [.dg 6 (Xc x)] (.d (.bl (decide (RI x)))):=by
 refine QL QJI ?_
 have hn:=QAc x.z h1 h2
 rw[hz]at hn
 (repeat' ((conv=>whnf);first|((with_reducible refine QFU ?_);refine⟨[[.it .i64 x.b0]],⟨by decide+kernel,rfl,by simp,rfl,by decide+kernel⟩,J4.vec ⟨by with_unfolding_all exact rfl,?_⟩⟩)|with_reducible refine XU QA mixed [0] riT (by decide+kernel) ?_|with_reducible exact trivial|with_reducible refine Br.mk ?_ ?_|((with_reducible refine CallE.id ?_);first|refine cEk hn ?_|refine CallE.inl ?_)|((with_reducible refine CallI.id ?_);first|with_reducible refine CallI.inl QA QKC rfl ?_|with_reducible refine CallI.inl QA QKE rfl ?_|with_reducible refine CallI.inl QA QKG rfl ?_|with_reducible refine CallI.inl QA QKD rfl ?_|with_reducible refine CallI.inl QA QKF rfl ?_|refine CallI.byM (QAd _ _ [x.b0] (bll rfl) (bll rfl)) (by with_unfolding_all exact rfl) rfl ?_|refine CallI.byM (YW _ _ 1 (Xd [x.b0]) (by simp[Xd]) (bll rfl) (bll rfl)) (by with_unfolding_all exact rfl) rfl ?_)|with_reducible refine Q4.unroll QA 5 ?_|refine QB ?_|intro x hx hu|intro h|refine Spp.mk ?_ ?_))
 all_goals try exact JO (by unfold RI;omega)
 all_goals (conv=>whnf)
 all_goals refine QBF (Wh (show _↔_ by omega) (hd.trans ?_))
 all_goals (unfold RI;simp only[ww,zi,y6,wj,not_or,or_false,false_or,not_false_eq_true,and_true,true_iff,wj,true_and];omega)
theorem ri2(x:Ino)(hk:x.k=1)(h1:0≤x.z)(h2:x.z≤128)(hz:(x.z+31)/32=2)(hd:((Lib.compact (Xd [x.b0,x.b1])).length=2↔[x.b0,x.b1].Nodup)):FnC Tryz.prog 225 [.dg 6 (Xc x)] (.d (.bl (decide (RI x)))):=by
 refine QL QJI ?_
 have hn:=QAc x.z h1 h2
 rw[hz]at hn
 (repeat' ((conv=>whnf);first|((with_reducible refine QFU ?_);refine⟨[[.it .i64 x.b0],[.it .i64 x.b1]],⟨by decide+kernel,rfl,by simp,rfl,by decide+kernel⟩,J4.vec ⟨by with_unfolding_all exact rfl,?_⟩⟩)|with_reducible refine XU QA mixed [0] riT (by decide+kernel) ?_|with_reducible exact trivial|with_reducible refine Br.mk ?_ ?_|((with_reducible refine CallE.id ?_);first|refine cEk hn ?_|refine CallE.inl ?_)|((with_reducible refine CallI.id ?_);first|with_reducible refine CallI.inl QA QKC rfl ?_|with_reducible refine CallI.inl QA QKE rfl ?_|with_reducible refine CallI.inl QA QKG rfl ?_|with_reducible refine CallI.inl QA QKD rfl ?_|with_reducible refine CallI.inl QA QKF rfl ?_|refine CallI.byM (QAd _ _ [x.b0,x.b1] (bll rfl) (bll rfl)) (by with_unfolding_all exact rfl) rfl ?_|refine CallI.byM (YW _ _ 2 (Xd [x.b0,x.b1]) (by simp[Xd]) (bll rfl) (bll rfl)) (by with_unfolding_all exact rfl) rfl ?_)|with_reducible refine Q4.unroll QA 5 ?_|refine QB ?_|intro x hx hu|intro h|refine Spp.mk ?_ ?_))
 all_goals try exact JO (by unfold RI;omega)
 all_goals (conv=>whnf)
 all_goals refine QBF (Wh (show _↔_ by omega) (hd.trans ?_))
 all_goals (unfold RI;simp only[ww,zi,y6,wj,not_or,or_false,false_or,not_false_eq_true,and_true,true_iff,wj,true_and];omega)
theorem ri3(x:Ino)(hk:x.k=1)(h1:0≤x.z)(h2:x.z≤128)(hz:(x.z+31)/32=3)(hd:((Lib.compact (Xd [x.b0,x.b1,x.b2])).length=3↔[x.b0,x.b1,x.b2].Nodup)):FnC Tryz.prog 225 [.dg 6 (Xc x)] (.d (.bl (decide (RI x)))):=by
 refine QL QJI ?_
 have hn:=QAc x.z h1 h2
 rw[hz]at hn
 (repeat' ((conv=>whnf);first|((with_reducible refine QFU ?_);refine⟨[[.it .i64 x.b0],[.it .i64 x.b1],[.it .i64 x.b2]],⟨by decide+kernel,rfl,by simp,rfl,by decide+kernel⟩,J4.vec ⟨by with_unfolding_all exact rfl,?_⟩⟩)|with_reducible refine XU QA mixed [0] riT (by decide+kernel) ?_|with_reducible exact trivial|with_reducible refine Br.mk ?_ ?_|((with_reducible refine CallE.id ?_);first|refine cEk hn ?_|refine CallE.inl ?_)|((with_reducible refine CallI.id ?_);first|with_reducible refine CallI.inl QA QKC rfl ?_|with_reducible refine CallI.inl QA QKE rfl ?_|with_reducible refine CallI.inl QA QKG rfl ?_|with_reducible refine CallI.inl QA QKD rfl ?_|with_reducible refine CallI.inl QA QKF rfl ?_|refine CallI.byM (QAd _ _ [x.b0,x.b1,x.b2] (bll rfl) (bll rfl)) (by with_unfolding_all exact rfl) rfl ?_|refine CallI.byM (YW _ _ 3 (Xd [x.b0,x.b1,x.b2]) (by simp[Xd]) (bll rfl) (bll rfl)) (by with_unfolding_all exact rfl) rfl ?_)|with_reducible refine Q4.unroll QA 5 ?_|refine QB ?_|intro x hx hu|intro h|refine Spp.mk ?_ ?_))
 all_goals try exact JO (by unfold RI;omega)
 all_goals (conv=>whnf)
 all_goals refine QBF (Wh (show _↔_ by omega) (hd.trans ?_))
 all_goals (unfold RI;simp only[ww,zi,y6,wj,not_or,or_false,false_or,not_false_eq_true,and_true,true_iff,wj,true_and];omega)
theorem ri4(x:Ino)(hk:x.k=1)(h1:0≤x.z)(h2:x.z≤128)(hz:(x.z+31)/32=4)(hd:((Lib.compact (Xd [x.b0,x.b1,x.b2,x.b3])).length=4↔[x.b0,x.b1,x.b2,x.b3].Nodup)):FnC Tryz.prog 225 [.dg 6 (Xc x)] (.d (.bl (decide (RI x)))):=by
 refine QL QJI ?_
 have hn:=QAc x.z h1 h2
 rw[hz]at hn
 (repeat' ((conv=>whnf);first|((with_reducible refine QFU ?_);refine⟨[[.it .i64 x.b0],[.it .i64 x.b1],[.it .i64 x.b2],[.it .i64 x.b3]],⟨by decide+kernel,rfl,by simp,rfl,by decide+kernel⟩,J4.vec ⟨by with_unfolding_all exact rfl,?_⟩⟩)|with_reducible refine XU QA mixed [0] riT (by decide+kernel) ?_|with_reducible exact trivial|with_reducible refine Br.mk ?_ ?_|((with_reducible refine CallE.id ?_);first|refine cEk hn ?_|refine CallE.inl ?_)|((with_reducible refine CallI.id ?_);first|with_reducible refine CallI.inl QA QKC rfl ?_|with_reducible refine CallI.inl QA QKE rfl ?_|with_reducible refine CallI.inl QA QKG rfl ?_|with_reducible refine CallI.inl QA QKD rfl ?_|with_reducible refine CallI.inl QA QKF rfl ?_|refine CallI.byM (QAd _ _ [x.b0,x.b1,x.b2,x.b3] (bll rfl) (bll rfl)) (by with_unfolding_all exact rfl) rfl ?_|refine CallI.byM (YW _ _ 4 (Xd [x.b0,x.b1,x.b2,x.b3]) (by simp[Xd]) (bll rfl) (bll rfl)) (by with_unfolding_all exact rfl) rfl ?_)|with_reducible refine Q4.unroll QA 5 ?_|refine QB ?_|intro x hx hu|intro h|refine Spp.mk ?_ ?_))
 all_goals try exact JO (by unfold RI;omega)
 all_goals (conv=>whnf)
 all_goals refine QBF (Wh (show _↔_ by omega) (hd.trans ?_))
 all_goals (unfold RI;simp only[ww,zi,y6,wj,not_or,or_false,false_or,not_false_eq_true,and_true,true_iff,wj,true_and];omega)
theorem QJO(l:List Int):(Xd l).length=l.length:=uq _
theorem QG9(l:List Int):(Xd l).Perm l:=List.mergeSort_perm _ _
theorem QKX(l:List Int):(Xd l).Pairwise (· ≤ ·):=by
 have:=List.pairwise_mergeSort (le:=fun x y:Int=>decide (x≤y)) (fun a b c h1 h2=>by simp only[decide_eq_true_eq]at*;omega) (fun a b=>by simp only[xx,decide_eq_true_eq];omega) l
 exact this.imp fun h=>by simpa using h
theorem QFV{zs:List Int}(h:zs.Pairwise (· ≤ ·)):(Lib.compact zs).length=zs.length↔zs.Nodup:=by
 have e:(Lib.compact zs).length=zs.length↔∀j,j<zs.length→Lib.keeps zs.toArray j=true:=by
  unfold Lib.compact Lib.compactUpTo
  rw[ze]
  constructor
  ·intro hl j hj
   have hl2:((List.range zs.length).filter (Lib.keeps zs.toArray)).length=(List.range zs.length).length:=by rw[hl,y5]
   exact List.length_filter_eq_length_iff.1 hl2 j (xd.2 hj)
  ·intro hk
   rw[List.filter_eq_self.2 (fun j hj=>hk j (xd.1 hj)),y5]
 rw[e]
 have hle:=u9.1 h
 constructor
 ·intro hk
  refine u9.2 fun i j hi hj hij=>?_
  have h1:=hk j hj
  simp only[Lib.keeps,decide_eq_true_eq]at h1
  have h2:zs[j]≠zs[j-1]'(by omega):=by
   rcases h1 with h1|h1
   ·omega
   ·simpa [show j<zs.length from hj,show j-1<zs.length by omega]using h1
  have h3:=hle (j-1) j (by omega) hj (by omega)
  by_cases h4:i=j-1
  ·subst h4;exact wl h2
  ·have h5:=hle i (j-1) hi (by omega) (by omega)
   omega
 ·intro hn j hj
  simp only[Lib.keeps,decide_eq_true_eq]
  rcases kh j with h0|h0
  ·exact .inl h0
  ·right
   have:=u9.1 hn (j-1) j (by omega) hj (by omega)
   simpa [show j<zs.length from hj,show j-1<zs.length by omega]using wl this
theorem Yz(l:List Int){n:Nat}(hl:l.length=n):(Lib.compact (Xd l)).length=n↔l.Nodup:=by
 rw[←hl,←QJO l,QFV (QKX l)]
 exact(QG9 l).nodup_iff
theorem QRd(a b c d e f a' b' c' d' e' f':Int):Yr [.it .i64 a,.it .i64 b,.it .i64 c,.it .i64 d,.it .i64 e,.it .i64 f] [.it .i64 a',.it .i64 b',.it .i64 c',.it .i64 d',.it .i64 e',.it .i64 f']=decide (a=a'∧b=b'∧c=c'∧d=d'∧e=e'∧f=f'):=by
 rw[xw];simp[Yr,eqD]
theorem riK(x:Ino)(hk:x.k≠1∨x.z<0∨128<x.z):FnC Tryz.prog 225 [.dg 6 (Xc x)] (.d (.bl (decide (RI x)))):=by
 refine QL QJI ?_
 (repeat' ((conv=>whnf);first|refine QB ?_|intro x hx hu|intro h|refine Spp.mk ?_ ?_))
 all_goals first
  |exact JO (by unfold RI;omega)
  |exact QPs (QRd _ _ _ _ _ _ _ _ _ _ _ _) (QBF (by unfold RI;omega))
theorem ri0(x:Ino)(hk:x.k=1)(h0:x.z=0):FnC Tryz.prog 225 [.dg 6 (Xc x)] (.d (.bl (decide (RI x)))):=by
 refine QL QJI ?_
 have hn:=QAc x.z (by omega) (by omega)
 rw[show(x.z+31)/32=0 by omega]at hn
 have hl:=QN9 0 (by decide)
 (repeat' ((conv=>whnf);first|((with_reducible refine QFU ?_);refine⟨[],⟨by decide+kernel,rfl,by simp,rfl,by decide+kernel⟩,J4.vec ⟨by with_unfolding_all exact rfl,?_⟩⟩)|with_reducible refine XU QA mixed [0] riT (by decide+kernel) ?_|with_reducible exact trivial|with_reducible refine Br.mk ?_ ?_|((with_reducible refine CallE.id ?_);first|refine cEk hn ?_|refine cEk hl ?_|refine CallE.inl ?_)|((with_reducible refine CallI.id ?_);first|with_reducible refine CallI.inl QA QKC rfl ?_|with_reducible refine CallI.inl QA QKE rfl ?_|with_reducible refine CallI.inl QA QKG rfl ?_|with_reducible refine CallI.inl QA QKD rfl ?_|with_reducible refine CallI.inl QA QKF rfl ?_|with_reducible refine CallI.inl QA QRQ rfl ?_|with_reducible refine CallI.inl QA QRS rfl ?_|with_reducible refine CallI.inl QA QRT rfl ?_|with_reducible refine CallI.inl QA QRR rfl ?_)|with_reducible refine Q4.unroll QA 5 ?_|refine QB ?_|intro x hx hu|intro h|refine Spp.mk ?_ ?_))
 all_goals first
  |exact JO (by unfold RI;omega)
  |exact QPr (by unfold RI;omega)
theorem QPu(x:Ino):FnC Tryz.prog 225 [.dg 6 (Xc x)] (.d (.bl (decide (RI x)))):=by
 by_cases hk:x.k=1∧0≤x.z∧x.z≤128
 ·obtain ⟨hk,h0,h1⟩:=hk
  rcases(by omega:x.z=0∨(x.z+31)/32=1∨(x.z+31)/32=2∨(x.z+31)/32=3∨(x.z+31)/32=4)with h|h|h|h|h
  ·exact ri0 x hk h
  ·exact ri1 x hk h0 h1 h (Yz _ rfl)
  ·exact ri2 x hk h0 h1 h (Yz _ rfl)
  ·exact ri3 x hk h0 h1 h (Yz _ rfl)
  ·exact ri4 x hk h0 h1 h (Yz _ rfl)
 ·exact riK x (by omega)
def QB8(x:Ino):List Int:=[x.k,x.z,x.b0,x.b1,x.b2,x.b3,0,0,0,0,0,0,0,0,0,0,0,0,0,0,0,0,0,0,0,0,0,0,0,0,0,0]
def by8(n:Int):UInt8:=UInt8.ofNat n.toNat
def QET(x:Ino):List UInt8:=(QB8 x).map by8
def QKY(l:List Int):List D:=l.map (fun n=> .it .u8 n)
theorem QOA{n:Int}(h:0≤n∧n<256):((by8 n).toNat:Int)=n:=by
 unfold by8
 rw[UInt8.toNat_ofNat']
 omega
theorem QHA:∀ {l:List Int},(∀n∈l,0≤n∧n<256)→QKY l=QF (l.map by8)
 |[],_=>rfl
 |n::l,h=>by
  show D.it .u8 n::QKY l=D.it .u8 (by8 n).toNat::QF (l.map by8)
  rw[QOA (h n zo),QHA fun m hm=>h m (zk _ hm)]
theorem QIL{x:Ino}(h:RI x):∀n∈QB8 x,0≤n∧n<256:=by
 intro n hn
 unfold RI at h
 simp only[QB8,zi,y6,or_false]at hn
 omega
def QJP(x:Ino):AV:=if RI x then .tup [.dg 32 (QKY (QB8 x)),.d (.bl true)]else .tup [.dg 32 (QF Q0),.d (.bl false)]
def QRe:Tr:=(.cons 0 (.cons 1 (.cons 2 (.cons 3 (.cons 4 (.cons 5 (.cons 6 (.cons 7 (.cons 8 (.cons 9 .nil .nil) .nil) .nil) .nil) (.cons 6 (.cons 5 (.cons 7 (.cons 8 (.cons 9 .nil .nil) .nil) .nil) (.cons 7 (.cons 5 (.cons 8 (.cons 9 .nil .nil) .nil) .nil) .nil)) .nil)) (.cons 6 (.cons 4 (.cons 5 (.cons 7 (.cons 8 (.cons 9 .nil .nil) .nil) .nil) (.cons 7 (.cons 5 (.cons 8 (.cons 9 .nil .nil) .nil) .nil) .nil)) (.cons 7 (.cons 4 (.cons 5 (.cons 8 (.cons 9 .nil .nil) .nil) .nil) .nil) .nil)) .nil)) (.cons 6 (.cons 3 (.cons 4 (.cons 5 (.cons 7 (.cons 8 (.cons 9 .nil .nil) .nil) .nil) (.cons 7 (.cons 5 (.cons 8 (.cons 9 .nil .nil) .nil) .nil) .nil)) (.cons 7 (.cons 4 (.cons 5 (.cons 8 (.cons 9 .nil .nil) .nil) .nil) .nil) .nil)) (.cons 7 (.cons 3 (.cons 4 (.cons 5 (.cons 8 (.cons 9 .nil .nil) .nil) .nil) .nil) .nil) .nil)) .nil)) (.cons 3 (.cons 2 (.cons 4 (.cons 5 (.cons 6 (.cons 7 (.cons 8 (.cons 9 .nil .nil) .nil) .nil) .nil) (.cons 6 (.cons 5 (.cons 7 (.cons 8 (.cons 9 .nil .nil) .nil) .nil) (.cons 7 (.cons 5 (.cons 8 (.cons 9 .nil .nil) .nil) .nil) .nil)) .nil)) (.cons 6 (.cons 4 (.cons 5 (.cons 7 (.cons 8 (.cons 9 .nil .nil) .nil) .nil) (.cons 7 (.cons 5 (.cons 8 (.cons 9 .nil .nil) .nil) .nil) .nil)) (.cons 7 (.cons 4 (.cons 5 (.cons 8 (.cons 9 .nil .nil) .nil) .nil) .nil) .nil)) .nil)) (.cons 4 (.cons 2 (.cons 5 (.cons 6 (.cons 7 (.cons 8 (.cons 9 .nil .nil) .nil) .nil) .nil) (.cons 6 (.cons 5 (.cons 7 (.cons 8 (.cons 9 .nil .nil) .nil) .nil) (.cons 7 (.cons 5 (.cons 8 (.cons 9 .nil .nil) .nil) .nil) .nil)) .nil)) (.cons 5 (.cons 2 (.cons 6 (.cons 7 (.cons 8 (.cons 9 .nil .nil) .nil) .nil) .nil) .nil) .nil)) .nil)) .nil)) (.cons 3 (.cons 1 (.cons 2 (.cons 4 (.cons 5 (.cons 6 (.cons 7 (.cons 8 (.cons 9 .nil .nil) .nil) .nil) .nil) (.cons 6 (.cons 5 (.cons 7 (.cons 8 (.cons 9 .nil .nil) .nil) .nil) (.cons 7 (.cons 5 (.cons 8 (.cons 9 .nil .nil) .nil) .nil) .nil)) .nil)) (.cons 6 (.cons 4 (.cons 5 (.cons 7 (.cons 8 (.cons 9 .nil .nil) .nil) .nil) (.cons 7 (.cons 5 (.cons 8 (.cons 9 .nil .nil) .nil) .nil) .nil)) (.cons 7 (.cons 4 (.cons 5 (.cons 8 (.cons 9 .nil .nil) .nil) .nil) .nil) .nil)) .nil)) (.cons 4 (.cons 2 (.cons 5 (.cons 6 (.cons 7 (.cons 8 (.cons 9 .nil .nil) .nil) .nil) .nil) (.cons 6 (.cons 5 (.cons 7 (.cons 8 (.cons 9 .nil .nil) .nil) .nil) (.cons 7 (.cons 5 (.cons 8 (.cons 9 .nil .nil) .nil) .nil) .nil)) .nil)) (.cons 5 (.cons 2 (.cons 6 (.cons 7 (.cons 8 (.cons 9 .nil .nil) .nil) .nil) .nil) .nil) .nil)) .nil)) (.cons 4 (.cons 1 (.cons 2 (.cons 5 (.cons 6 (.cons 7 (.cons 8 (.cons 9 .nil .nil) .nil) .nil) .nil) (.cons 6 (.cons 5 (.cons 7 (.cons 8 (.cons 9 .nil .nil) .nil) .nil) (.cons 7 (.cons 5 (.cons 8 (.cons 9 .nil .nil) .nil) .nil) .nil)) .nil)) (.cons 5 (.cons 2 (.cons 6 (.cons 7 (.cons 8 (.cons 9 .nil .nil) .nil) .nil) .nil) .nil) .nil)) (.cons 5 (.cons 1 (.cons 2 (.cons 6 (.cons 7 (.cons 8 (.cons 9 .nil .nil) .nil) .nil) .nil) .nil) .nil) .nil)) .nil)) .nil)) (.cons 3 (.cons 0 (.cons 1 (.cons 2 (.cons 4 (.cons 5 (.cons 6 (.cons 7 (.cons 8 (.cons 9 .nil .nil) .nil) .nil) .nil) (.cons 6 (.cons 5 (.cons 7 (.cons 8 (.cons 9 .nil .nil) .nil) .nil) (.cons 7 (.cons 5 (.cons 8 (.cons 9 .nil .nil) .nil) .nil) .nil)) .nil)) (.cons 6 (.cons 4 (.cons 5 (.cons 7 (.cons 8 (.cons 9 .nil .nil) .nil) .nil) (.cons 7 (.cons 5 (.cons 8 (.cons 9 .nil .nil) .nil) .nil) .nil)) (.cons 7 (.cons 4 (.cons 5 (.cons 8 (.cons 9 .nil .nil) .nil) .nil) .nil) .nil)) .nil)) (.cons 4 (.cons 2 (.cons 5 (.cons 6 (.cons 7 (.cons 8 (.cons 9 .nil .nil) .nil) .nil) .nil) (.cons 6 (.cons 5 (.cons 7 (.cons 8 (.cons 9 .nil .nil) .nil) .nil) (.cons 7 (.cons 5 (.cons 8 (.cons 9 .nil .nil) .nil) .nil) .nil)) .nil)) (.cons 5 (.cons 2 (.cons 6 (.cons 7 (.cons 8 (.cons 9 .nil .nil) .nil) .nil) .nil) .nil) .nil)) .nil)) (.cons 4 (.cons 1 (.cons 2 (.cons 5 (.cons 6 (.cons 7 (.cons 8 (.cons 9 .nil .nil) .nil) .nil) .nil) (.cons 6 (.cons 5 (.cons 7 (.cons 8 (.cons 9 .nil .nil) .nil) .nil) (.cons 7 (.cons 5 (.cons 8 (.cons 9 .nil .nil) .nil) .nil) .nil)) .nil)) (.cons 5 (.cons 2 (.cons 6 (.cons 7 (.cons 8 (.cons 9 .nil .nil) .nil) .nil) .nil) .nil) .nil)) (.cons 5 (.cons 1 (.cons 2 (.cons 6 (.cons 7 (.cons 8 (.cons 9 .nil .nil) .nil) .nil) .nil) .nil) .nil) .nil)) .nil)) (.cons 4 (.cons 0 (.cons 1 (.cons 2 (.cons 5 (.cons 6 (.cons 7 (.cons 8 (.cons 9 .nil .nil) .nil) .nil) .nil) (.cons 6 (.cons 5 (.cons 7 (.cons 8 (.cons 9 .nil .nil) .nil) .nil) (.cons 7 (.cons 5 (.cons 8 (.cons 9 .nil .nil) .nil) .nil) .nil)) .nil)) (.cons 5 (.cons 2 (.cons 6 (.cons 7 (.cons 8 (.cons 9 .nil .nil) .nil) .nil) .nil) .nil) .nil)) (.cons 5 (.cons 1 (.cons 2 (.cons 6 (.cons 7 (.cons 8 (.cons 9 .nil .nil) .nil) .nil) .nil) .nil) .nil) .nil)) (.cons 5 (.cons 0 (.cons 1 (.cons 2 (.cons 6 (.cons 7 (.cons 8 (.cons 9 .nil .nil) .nil) .nil) .nil) .nil) .nil) .nil) .nil)) .nil)) .nil))
theorem QKZ(x:Ino):FnC Tryz.prog 180 [.dg 6 (Xc x)] (QJP x):=by
 have hr:=QPu x
 unfold QJP
 by_cases h:RI x
 ·rw [if_pos h]
  rw[decide_eq_true h]at hr
  have hb:=QIL h
  have b0:=hb x.k (by simp[QB8])
  have b1:=hb x.z (by simp[QB8])
  have b2:=hb x.b0 (by simp[QB8])
  have b3:=hb x.b1 (by simp[QB8])
  have b4:=hb x.b2 (by simp[QB8])
  have b5:=hb x.b3 (by simp[QB8])
  clear hb
  refine QL QPb ?_
  (repeat' ((conv=>whnf);first|((with_reducible refine CallE.id ?_);refine cEk hr ?_)|with_reducible refine AtA.mk' ?_|refine QB ?_|intro x hx hu|intro h|refine Spp.mk ?_ ?_))
  refine QX.join ⟨[(1,.ptr 0 0),(2,.ptr 1 0),(3,.d (.bl false)),(4,.ptr 2 0)],[(0,.cells 6 ((Xc x).map .d)),(1,.cells 32 ((QF Q0).map .d)),(2,.cells 32 ((QKY (x.k::x.z::List.replicate 30 0)).map .d))],3⟩ (XU QA mixed [] QRe (by decide+kernel) ?_) ?_
  ·(repeat' ((conv=>whnf);first|with_reducible refine Br.mk ?_ ?_|with_reducible exact trivial|refine QB ?_|intro x hx hu|intro h|refine Spp.mk ?_ ?_))
   all_goals exact Wk.e
  (repeat' ((conv=>whnf);first|with_reducible refine Q4.unroll QA 5 ?_|with_reducible refine AtA.mk' ?_|refine QB ?_|intro x hx hu|intro h|refine Spp.mk ?_ ?_))
  all_goals rfl
 ·rw [if_neg h]
  rw[decide_eq_false h]at hr
  refine QL QPb ?_
  (repeat' ((conv=>whnf);first|((with_reducible refine CallE.id ?_);refine cEk hr ?_)|with_reducible refine AtA.mk' ?_|refine QB ?_|intro x hx hu|intro h|refine Spp.mk ?_ ?_))
  all_goals rfl
def Zv(s:List UInt8):Ino:=⟨(s.getD 0 0).toNat,(s.getD 1 0).toNat,(s.getD 2 0).toNat,(s.getD 3 0).toNat,(s.getD 4 0).toNat,(s.getD 5 0).toNat⟩
def QFW:Ino:=⟨0,0,0,0,0,0⟩
def QEU(s:List UInt8):AV:=if RI (Zv s)∧s=QET (Zv s)then .tup [.dg 6 (Xc (Zv s)),.d (.bl true)]else .tup [.dg 6 (Xc QFW),.d (.bl false)]
theorem Qq{s:List UInt8}(hs:s.length=32)(k:Nat)(hk:k<32):s[k]? =some (s.getD k 0):=by
 rw[z1,zm (by omega)];rfl
theorem QFX(s:List UInt8)(hs:s.length=32):FnC Tryz.prog 155 [.dg 32 (QF s)] (QEU s):=by
 have hi:=QKZ (Zv s)
 unfold QEU
 have c0:=(s.getD 0 0).toNat_lt
 have c1:=(s.getD 1 0).toNat_lt
 have c2:=(s.getD 2 0).toNat_lt
 have c3:=(s.getD 3 0).toNat_lt
 have c4:=(s.getD 4 0).toNat_lt
 have c5:=(s.getD 5 0).toNat_lt
 by_cases h:RI (Zv s)
 ·rw [QJP,if_pos h,QHA (QIL h)]at hi
  have hil:(QET (Zv s)).length=32:=rfl
  have he:=eqS s (QET (Zv s)) hs
  by_cases h2:s=QET (Zv s)
  ·rw [decide_eq_true h2]at he
   rw[if_pos ⟨h,h2⟩]
   refine QL QNz ?_
   (repeat' ((conv=>whnf);first|((with_reducible refine CallE.id ?_);refine cEk hi ?_)|with_reducible refine Q4.unroll QA 5 ?_|refine AtA.eq (Qp rfl (Qq hs 0 (by decide))) ?_|refine AtA.eq (Qp rfl (Qq hs 1 (by decide))) ?_|refine AtA.eq (Qp rfl (Qq hs 2 (by decide))) ?_|refine AtA.eq (Qp rfl (Qq hs 3 (by decide))) ?_|refine AtA.eq (Qp rfl (Qq hs 4 (by decide))) ?_|refine AtA.eq (Qp rfl (Qq hs 5 (by decide))) ?_|refine AtA.eq (ZI rfl rfl hs) ?_|refine AtA.eq (ZI rfl rfl hil) ?_|refine XZ (JM _ _ hs hil) ?_|refine QB ?_|intro x hx hu|intro h|refine Spp.mk ?_ ?_))
   all_goals rfl
  ·rw [decide_eq_false h2]at he
   rw[if_neg (fun q=>h2 q.2)]
   refine QL QNz ?_
   (repeat' ((conv=>whnf);first|((with_reducible refine CallE.id ?_);refine cEk hi ?_)|with_reducible refine Q4.unroll QA 5 ?_|refine AtA.eq (Qp rfl (Qq hs 0 (by decide))) ?_|refine AtA.eq (Qp rfl (Qq hs 1 (by decide))) ?_|refine AtA.eq (Qp rfl (Qq hs 2 (by decide))) ?_|refine AtA.eq (Qp rfl (Qq hs 3 (by decide))) ?_|refine AtA.eq (Qp rfl (Qq hs 4 (by decide))) ?_|refine AtA.eq (Qp rfl (Qq hs 5 (by decide))) ?_|refine AtA.eq (ZI rfl rfl hs) ?_|refine AtA.eq (ZI rfl rfl hil) ?_|refine XZ (JM _ _ hs hil) ?_|refine QB ?_|intro x hx hu|intro h|refine Spp.mk ?_ ?_))
   all_goals rfl
 ·rw [QJP,if_neg h]at hi
  have hil:Q0.length=32:=rfl
  rw[if_neg (fun q=>h q.1)]
  refine QL QNz ?_
  (repeat' ((conv=>whnf);first|((with_reducible refine CallE.id ?_);refine cEk hi ?_)|with_reducible refine Q4.unroll QA 5 ?_|refine AtA.eq (Qp rfl (Qq hs 0 (by decide))) ?_|refine AtA.eq (Qp rfl (Qq hs 1 (by decide))) ?_|refine AtA.eq (Qp rfl (Qq hs 2 (by decide))) ?_|refine AtA.eq (Qp rfl (Qq hs 3 (by decide))) ?_|refine AtA.eq (Qp rfl (Qq hs 4 (by decide))) ?_|refine AtA.eq (Qp rfl (Qq hs 5 (by decide))) ?_|refine AtA.eq (ZI rfl rfl hs) ?_|refine AtA.eq (ZI rfl rfl hil) ?_|refine XZ (JM _ _ hs hil) ?_|refine QB ?_|intro x hx hu|intro h|refine Spp.mk ?_ ?_))
  all_goals rfl
end Go.Proofs.YtikgcbioagmkkaaGreatDoor
