/- Contracts of the functions that the law reaches, and the law. Conditions: none. -/
import Derived.Test.YtikgcbioagmkkaaGreatDoorFKA
import Derived.Test.YtikgcbioagmkkaaGreatDoorFKB
import Derived.Test.YtikgcbioagmkkaaGreatDoorFSD
import Derived.Test.YtikgcbioagmkkaaGreatDoorFSC
import Derived.Test.YtikgcbioagmkkaaGreatDoorFKC
import Derived.Test.YtikgcbioagmkkaaGreatDoorFSE
set_option maxRecDepth 100000
set_option linter.all false
set_option maxHeartbeats 16000000
namespace Go.Proofs.YtikgcbioagmkkaaGreatDoor
open Go.Sy
def QFZ(s:List UInt8):List UInt8:=if(s.getD 3 0).toNat≤16 then(s.drop 16).take (s.getD 3 0).toNat else []
def Xs(s:List UInt8):Ent:=⟨true,(s.getD 1 0).toNat,QFZ s,(s.getD 2 0).toNat⟩
def Yk:Ent:=⟨false,0,[],0⟩
def QFa(s:List UInt8):Prop:=RE (Xs s)∧s=JG (Xs s)
instance(s:List UInt8):Decidable (QFa s):=by unfold QFa;infer_instance
def QBo(s:List UInt8):Ent:=if QFa s then Xs s else Yk
def QDe(s:List UInt8):Bool:=decide (s=Q0∨QFa s)
def QHC(s:List UInt8):AV:= .tup [.dg 4 (J1 (QBo s)),.d (.bl (QDe s))]
theorem QKa:¬QFa Q0:=by
 intro h
 have h1:=h.1
 unfold RE Xs at h1
 rcases h1 with h1|h1
 ·cases h1.1
 ·have:(1:Int)≤((Q0.getD 2 0).toNat:Int):=h1.2.2.2.1
  revert this;decide
theorem QKb(s:List UInt8)(hs:s.length=32):FnC Tryz.prog 167 [.dg 32 (QF s)] (QHC s):=by
 have hz:=QMV s hs
 have c1:=(s.getD 1 0).toNat_lt
 have c2:=(s.getD 2 0).toNat_lt
 have c3:=(s.getD 3 0).toNat_lt
 have hc:=QN8 s hs (s.getD 3 0).toNat (by omega)
 have he:=QKV (Xs s)
 unfold QHC
 by_cases h0:s=Q0
 ·subst h0
  rw[decide_eq_true rfl]at hz
  rw[show QBo Q0=Yk from if_neg QKa,show QDe Q0=true from decide_eq_true (.inl rfl)]
  refine QL QMK ?_
  (repeat' ((conv=>whnf);first|refine cEk hz ?_|with_reducible refine AtA.mk' ?_|refine QB ?_|intro x hx hu|intro h|refine Spp.mk ?_ ?_))
  all_goals rfl
 rw[decide_eq_false h0]at hz
 have hEq:J1 (Xs s)=[.bl true,.it .i64 (s.getD 1 0).toNat,.st (QFZ s),.it .i64 (s.getD 2 0).toNat]:=rfl
 by_cases h1:RE (Xs s)
 ·have hel:=QFS _ h1
  rw[QJN,if_pos h1]at he
  have heq:=eqS s (JG (Xs s)) (by rw[hs,hel])
  by_cases h2:s=JG (Xs s)
  ·rw [show QBo s=Xs s from if_pos ⟨h1,h2⟩,show QDe s=true from decide_eq_true (.inr ⟨h1,h2⟩)]
   rw[decide_eq_true h2]at heq
   refine QL QMK ?_
   (repeat' ((conv=>whnf);first|refine cEk hz ?_|refine cEk he ?_|refine Ze.mk ⟨_,hc,?_⟩|((with_reducible refine Qm ?_);(refine Jy QA mixed ?_))|((with_reducible refine letC_id ?_);refine Z8.mk ((QF (JG (Xs s))).map AV.d) (JN _) ?_)|refine AtA.eq (Qp rfl (Qq hs 1 (by decide))) ?_|refine AtA.eq (Qp rfl (Qq hs 2 (by decide))) ?_|refine AtA.eq (Qp rfl (Qq hs 3 (by decide))) ?_|refine AtA.eq (ZI rfl rfl hs) ?_|refine AtA.eq (ZI rfl rfl hel) ?_|refine XZ (JM _ _ hs hel) ?_|((with_reducible refine QH5 ?_);refine⟨QFZ s,rfl,?_⟩)|refine QB ?_|intro x hx hu|intro h|refine Spp.mk ?_ ?_))
   all_goals rfl
  ·rw [show QBo s=Yk from if_neg (fun q=>h2 q.2),show QDe s=false from decide_eq_false (fun q=>q.elim h0 fun q=>h2 q.2)]
   rw[decide_eq_false h2]at heq
   refine QL QMK ?_
   (repeat' ((conv=>whnf);first|refine cEk hz ?_|refine cEk he ?_|refine Ze.mk ⟨_,hc,?_⟩|((with_reducible refine Qm ?_);(refine Jy QA mixed ?_))|((with_reducible refine letC_id ?_);refine Z8.mk ((QF (JG (Xs s))).map AV.d) (JN _) ?_)|refine AtA.eq (Qp rfl (Qq hs 1 (by decide))) ?_|refine AtA.eq (Qp rfl (Qq hs 2 (by decide))) ?_|refine AtA.eq (Qp rfl (Qq hs 3 (by decide))) ?_|refine AtA.eq (ZI rfl rfl hs) ?_|refine AtA.eq (ZI rfl rfl hel) ?_|refine XZ (JM _ _ hs hel) ?_|((with_reducible refine QH5 ?_);refine⟨QFZ s,rfl,?_⟩)|refine QB ?_|intro x hx hu|intro h|refine Spp.mk ?_ ?_))
   all_goals rfl
 ·have hel:Q0.length=32:=rfl
  rw[QJN,if_neg h1]at he
  rw[show QBo s=Yk from if_neg (fun q=>h1 q.1),show QDe s=false from decide_eq_false (fun q=>q.elim h0 fun q=>h1 q.1)]
  refine QL QMK ?_
  (repeat' ((conv=>whnf);first|refine cEk hz ?_|refine cEk he ?_|refine Ze.mk ⟨_,hc,?_⟩|((with_reducible refine Qm ?_);(refine Jy QA mixed ?_))|((with_reducible refine letC_id ?_);refine Z8.mk ((QF Q0).map AV.d) (JN _) ?_)|refine AtA.eq (Qp rfl (Qq hs 1 (by decide))) ?_|refine AtA.eq (Qp rfl (Qq hs 2 (by decide))) ?_|refine AtA.eq (Qp rfl (Qq hs 3 (by decide))) ?_|refine AtA.eq (ZI rfl rfl hs) ?_|refine AtA.eq (ZI rfl rfl hel) ?_|refine XZ (JM _ _ hs hel) ?_|((with_reducible refine QH5 ?_);refine⟨QFZ s,rfl,?_⟩)|refine QB ?_|intro x hx hu|intro h|refine Spp.mk ?_ ?_))
  all_goals rfl
structure Wr where
 a:Int
 s:List UInt8
 k:Int
 i:Int
 e:Int
deriving DecidableEq
def Qx(w:Wr):List D:=[.it .i64 w.a]++QF w.s++[.it .i64 w.k,.it .i64 w.i,.it .i64 w.e]
structure Dk where
 nx:Int
 safe:List (List UInt8)
 wait:List Wr
 log:List (List D)
 ep:Int
def QDf(d:Dk):List D:=[.an,.it .i64 d.nx,.fs 32 (d.safe.map QF),.fs 36 (d.wait.map Qx),.fs 38 d.log,.it .i64 d.ep]
def QS:Option Dk→D
 |none=> .ot (.pointer none)
 |some d=> .fp 6 (QDf d)
def XI:Option Dk→Prop
 |none=>True
 |some d=>(∀s∈d.safe,s.length=32)∧(∀w∈d.wait,w.s.length=32)∧d.safe.length≤65∧d.wait.length≤100000
def QBp:Option Dk→Bool
 |none=>true
 |some d=>decide (d.safe.length=0)
def QFb(d:Option Dk)(n:Int):Prop:=
 match d with
 |none=>False
 |some d=>0≤n∧n<d.safe.length
instance(d:Option Dk)(n:Int):Decidable (QFb d n):=by unfold QFb;cases d<;>infer_instance
def Xt(n:Int)(w:List Wr):Option (List UInt8):=(w.reverse.find? (fun x=>decide (x.a=n))).map (·.s)
def rdS(d:Option Dk)(n:Int):List UInt8:=
 match d with
 |none=>Q0
 |some d=>if 0≤n∧n<d.safe.length then(match Xt n d.wait with|some s=>s|none=>d.safe.getD n.toNat Q0)else Q0
def rdE(d:Option Dk)(n:Int):Int:=if QFb d n then 0 else 1
theorem XX{d:Option Dk}(h:XI d)(n:Int):(rdS d n).length=32:=by
 cases d with
 |none=>rfl
 |some d=>
  obtain⟨h1,h2,_⟩:=h
  simp only[rdS]
  split
  ·split
   ·rename_i s hs
    simp only[Xt,vo]at hs
    obtain⟨w,hw,rfl⟩:=hs
    exact h2 w (by simpa using ub hw)
   ·rw [z1]
    cases hq:d.safe[n.toNat]? with
    |none=>rfl
    |some s=>exact h1 s (yi hq)
  ·rfl
theorem Jg(d:Option Dk):FnC Tryz.prog 57 [.d (QS d)] (.d (.bl (QBp d))):=by
 cases d with
 |none=>
  refine QL i57 ?_
  (repeat' ((conv=>whnf);first|refine QB ?_|intro x hx hu|intro h|refine Spp.mk ?_ ?_))
  rfl
 |some d=>
  refine QL i57 ?_
  (repeat' ((conv=>whnf);first|refine QB ?_|intro x hx hu|intro h|refine Spp.mk ?_ ?_))
  refine YL ?_
  show(((d.safe.map QF).length:Int)==0)=decide (d.safe.length=0)
  rw[ze,xw,beq_iff_eq,decide_eq_true_eq];omega
theorem QOB(d:Option Dk)(n:Int):FnC Tryz.prog 51 [.d (QS d),.d (.it .i64 n)] (.d (.bl (decide (QFb d n)))):=by
 have hn:=Jg d
 cases d with
 |none=>
  refine QL i51 ?_
  (repeat' ((conv=>whnf);first|refine cEk hn ?_|refine QB ?_|intro x hx hu|intro h|refine Spp.mk ?_ ?_))
  rfl
 |some d=>
  by_cases h:d.safe.length=0
  ·rw [show QBp (some d)=true from decide_eq_true h]at hn
   refine QL i51 ?_
   (repeat' ((conv=>whnf);first|refine cEk hn ?_|refine QB ?_|intro x hx hu|intro h|refine Spp.mk ?_ ?_))
   exact JO (by show¬(0≤n∧n<d.safe.length);omega)
  ·rw [show QBp (some d)=false from decide_eq_false h]at hn
   refine QL i51 ?_
   (repeat' ((conv=>whnf);first|refine cEk hn ?_|refine QB ?_|intro x hx hu|intro h|refine Spp.mk ?_ ?_))
   all_goals first
    |exact JO (by show¬(0≤n∧n<d.safe.length);omega)
    |exact QBF (by show n<((d.safe.map QF).length:Int)↔(0≤n∧n<(d.safe.length:Int));rw[ze];omega)
theorem QBG{α β:Type}{e:α→β}{l:List α}{n:Int}{x:α}{K:β→Prop}(h0:0≤n∧n<l.length)(hx:l[n.toNat]? =some x)(h:K (e x)):
  (0≤n∧n<(l.map e).length)∧∀c,(l.map e)[n.toNat]? =some c→K c:=
 QIw h0 fun y hy=>by rw[hx]at hy;obtain rfl:=za hy;exact h
theorem QKc{w:Wr}(h:w.s.length=32):(Qx w).length=36:=by unfold Qx;simp[ZT,h]
theorem QNh{l:List D}{n:Nat}(h:l.length=n):l.map AV.d=[]++(l.take n).map AV.d++[]:=by
 rw[yd (by omega),y3,y7]
theorem QHD{n:Int}{l:List Wr}{k:Nat}{w:Wr}(h:∀j,j<k→∀x,l.reverse[j]? =some x→x.a≠n)(hw:l.reverse[k]? =some w)(ha:w.a=n):Xt n l=some w.s:=by
 unfold Xt
 have hk:=(z8.1 hw).1
 rw[je.2 ⟨by simpa using ha,k,hk,(z8.1 hw).2,fun j hj=>by
  have:=h j hj _ (zm (by omega))
  simpa using this⟩]
 rfl
theorem QFc{n:Int}{l:List Wr}(h:∀j,j<l.length→∀x,l.reverse[j]? =some x→x.a≠n):Xt n l=none:=by
 unfold Xt
 rw[Option.map_eq_none_iff,List.find?_eq_none]
 intro x hx
 obtain⟨j,hj,rfl⟩:=ug hx
 have:=h j (by simpa using hj) _ (zm hj)
 simpa using this
theorem hpd{d:Dk}{n:Int}:QFb (some d) n↔(0≤n∧n<d.safe.length):=Iff.rfl
theorem ldW{w:Wr}(hs:w.s.length=32){ty:Ty}(ha:ty.kd.agg=true)(hz:ty.size=32):ldA ty 1 ((Qx w).map AV.d)= .dg 32 (QF w.s):=by
 unfold ldA
 rw[ha,cond_true,hz]
 have h1:(((Qx w).map AV.d).drop 1).take 32=(QF w.s).map AV.d:=by
  show((QF w.s++_).map AV.d).take 32=_
  rw[yv,wy (by rw[ze,ZT,hs];exact zr _),yd (by rw[ze,ZT,hs];exact zr _)]
 rw[h1]
 unfold QCu
 rw[YB]
theorem QAe(d:Option Dk)(hd:XI d)(n:Int):FnC Tryz.prog 12 [.d (QS d),.d (.it .i64 n)] (.tup [.dg 32 (QF (rdS d n)),.d (.it .i64 (rdE d n))]):=by
 have hh:=QOB d n
 by_cases h:QFb d n
 rotate_left
 ·rw [decide_eq_false h]at hh
  rw[show rdE d n=1 from if_neg h,show rdS d n=Q0 by cases d with|none=>rfl|some d=>exact if_neg h]
  refine QL i12 ?_
  (repeat' ((conv=>whnf);first|refine cEk hh ?_|with_reducible refine AtA.mk' ?_|refine QB ?_|intro x hx hu|intro h|refine Spp.mk ?_ ?_))
  rfl
 rw[decide_eq_true h]at hh
 cases d with
 |none=>exact h.elim
 |some d=>
  obtain⟨hd1,hd2,hd3,hd4⟩:=hd
  obtain⟨h0,h1⟩:=hpd.1 h
  rw[show rdE (some d) n=0 from if_pos h,show rdS (some d) n=(match Xt n d.wait with|some s=>s|none=>d.safe.getD n.toNat Q0)from if_pos h]
  generalize hR:(match Xt n d.wait with|some s=>s|none=>d.safe.getD n.toNat Q0)=R
  refine QL i12 ?_
  (repeat' ((conv=>whnf);first|refine cEk hh ?_|refine CallE.inl ?_|with_reducible refine CallI.inl QA i52 rfl ?_|with_reducible refine AtA.mk' ?_|refine QB ?_|intro x hx hu|intro h|refine Spp.mk ?_ ?_))
  conv=>whnf
  refine Xv.intro QA QQm rfl rfl ?_
  (repeat' ((conv=>whnf);first|refine QB ?_|intro x hx hu|intro h|refine Spp.mk ?_ ?_))
  have hwl:(d.wait.map Qx).length=d.wait.length:=ze ..
  refine QEF QA (fun k:Nat=>k≤d.wait.length∧∀j,j<k→∀x,d.wait.reverse[j]? =some x→x.a≠n) (fun k=>[(0,.yld 6),(1,.ptr 4 0),(3,.d (.it .i64 ((d.wait.length:Nat)-1-(k:Nat))))]) (fun k=>d.wait.length-k) 0 ⟨yf _,fun j hj=>by omega⟩ ⟨rfl,rfl,QW (by rw[hwl];omega),trivial⟩ rfl ?_
  intro k ⟨k1,k2⟩
  rcases yq k d.wait.length with hkl|hkl
  ·obtain ⟨w,hw⟩:=ZD (l:=d.wait) (k:=d.wait.length-1-k) (by omega)
   have hw':d.wait[((d.wait.length:Int)-1-k).toNat]? =some w:=by rw[show((d.wait.length:Int)-1-k).toNat=d.wait.length-1-k by omega];exact hw
   have hrev:d.wait.reverse[k]? =some w:=by rw[List.getElem?_reverse hkl];exact hw
   have hws:=hd2 w (yi hw)
   (repeat' ((conv=>whnf);first|with_reducible refine QBX.intro QA (by with_unfolding_all exact rfl) (by with_unfolding_all exact rfl) (by with_unfolding_all exact rfl) ?_|((with_reducible refine letC_id ?_);first|refine Z8.mk ((Qx w).map AV.d) (QNh (QKc hws)) ?_|refine Z8.mk ((QF w.s).map AV.d) (JN _) ?_)|refine AtA.eq (ldW hws rfl rfl) ?_|with_reducible refine AtA.mk' ?_|with_reducible refine QBG (x:=w) (by omega) hw' ?_|refine QB ?_|intro x hx hu|intro h|refine Spp.mk ?_ ?_))
   ·have:R=w.s:=by rw[←hR,QHD k2 hrev (by assumption)]
    subst this
    conv=>whnf
    conv in (ldA _ _ _)=>tactic=>exact ZI rfl rfl hws
    rfl
   ·refine QI1 (k+1) ⟨by omega,fun j hj x hx=>?_⟩ (by dsimp only;omega) (ai rfl (ai rfl (ai (QW (by omega)) trivial))) (by (repeat (first|exact trivial|refine ai rfl ?_))) rfl
    rcases yq j k with hjk|hjk
    ·exact k2 j hjk x hx
    ·obtain rfl:j=k:=by omega
     obtain rfl:w=x:=za (hrev.symm.trans hx)
     assumption
  ·have:R=d.safe.getD n.toNat Q0:=by rw[←hR,QFc (fun j hj=>k2 j (by omega))]
   obtain⟨s,hsn⟩:=ZD (l:=d.safe) (k:=n.toNat) (by omega)
   have hsl:=hd1 s (yi hsn)
   rw[z1,hsn]at this
   have this:R=s:=this
   rw[this]
   (repeat' ((conv=>whnf);first|((with_reducible refine letC_id ?_);refine Z8.mk ((QF s).map AV.d) (QNh (by rw[ZT];exact hsl)) ?_)|with_reducible refine AtA.mk' ?_|with_reducible refine QBG (x:=s) (by omega) hsn ?_|refine QB ?_|intro x hx hu|intro h|refine Spp.mk ?_ ?_))
   conv=>whnf
   conv in (ldA _ _ _)=>tactic=>exact ZI rfl rfl hsl
   rfl
def QFd(s:List UInt8):Prop:=RI (Zv s)∧s=QET (Zv s)
instance(s:List UInt8):Decidable (QFd s):=by unfold QFd;infer_instance
def QCa(s:List UInt8):Ino:=if QFd s then Zv s else QFW
theorem QDg(s:List UInt8):QEU s= .tup [.dg 6 (Xc (QCa s)),.d (.bl (decide (QFd s)))]:=by
 unfold QEU QCa
 by_cases h:QFd s
 ·have h':RI (Zv s)∧s=QET (Zv s):=h
  rw[if_pos h',if_pos h,decide_eq_true h]
 ·have h':¬(RI (Zv s)∧s=QET (Zv s)):=h
  rw[if_neg h',if_neg h,decide_eq_false h]
def Qy(f:Int→List UInt8)(n:Int):Ino:=if 0≤n∧n<16 then QCa (f (1+n))else QFW
def QK(f:Int→List UInt8)(k:Int):Ent:=if 0≤k∧k<24 then QBo (f (17+k))else Yk
def imS(m:List (List UInt8))(n:Int):List UInt8:=m.getD n.toNat Q0
def QEV(m:List (List UInt8)):Prop:=∀s∈m,s.length=32
abbrev QBH(m:List (List UInt8)):D:= .fs 32 (m.map QF)
theorem QNi(d:Option Dk)(hd:XI d)(n:Int):FnC Tryz.prog 165 [.d (QS d),.d (.it .i64 n)] (.dg 32 (QF (rdS d n))):=by
 have hr:=QAe d hd n
 have hl:=XX hd n
 refine QL QQ5 ?_
 (repeat' ((conv=>whnf);first|refine cEk hr ?_|((with_reducible refine letC_id ?_);refine Z8.mk ((QF (rdS d n)).map AV.d) (JN _) ?_)|refine AtA.eq (ZI rfl rfl hl) ?_|refine QB ?_|intro x hx hu|intro h|refine Spp.mk ?_ ?_))
 conv=>whnf
 conv in (ldA _ _ _)=>tactic=>exact ZI rfl rfl hl
 rfl
theorem Xe(d:Option Dk)(hd:XI d)(n:Int):FnC Tryz.prog 111 [.d (QS d),.d (.it .i64 n)] (.dg 6 (Xc (Qy (rdS d) n))):=by
 by_cases h:0≤n∧n<16
 ·have ha:=QNi d hd (1+n)
  have hi:=QFX (rdS d (1+n)) (XX hd _)
  rw[QDg]at hi
  rw[show Qy (rdS d) n=QCa (rdS d (1+n))from if_pos h]
  refine QL QPQ ?_
  (repeat' ((conv=>whnf);first|refine cEk ha ?_|refine cEk hi ?_|refine QB ?_|intro x hx hu|intro h|refine Spp.mk ?_ ?_))
  rfl
 ·rw [show Qy (rdS d) n=QFW from if_neg h]
  refine QL QPQ ?_
  by_cases h0:n<0
  all_goals (repeat' ((conv=>whnf);first|refine QB ?_|intro x hx hu|intro h|refine Spp.mk ?_ ?_))
  all_goals first|omega|rfl
theorem Xf(d:Option Dk)(hd:XI d)(n:Int):FnC Tryz.prog 113 [.d (QS d),.d (.it .i64 n)] (.dg 4 (J1 (QK (rdS d) n))):=by
 by_cases h:0≤n∧n<24
 ·have ha:=QNi d hd (17+n)
  have hi:=QKb (rdS d (17+n)) (XX hd _)
  rw[QHC]at hi
  rw[show QK (rdS d) n=QBo (rdS d (17+n))from if_pos h]
  refine QL QPR ?_
  (repeat' ((conv=>whnf);first|refine cEk ha ?_|refine cEk hi ?_|refine QB ?_|intro x hx hu|intro h|refine Spp.mk ?_ ?_))
  rfl
 ·rw [show QK (rdS d) n=Yk from if_neg h]
  refine QL QPR ?_
  by_cases h0:n<0
  all_goals (repeat' ((conv=>whnf);first|refine QB ?_|intro x hx hu|intro h|refine Spp.mk ?_ ?_))
  all_goals first|omega|rfl
def JH(f:Int→List UInt8)(n:Int):Prop:=n=0∨∃k:Nat,k<24∧(QK f k).u=true∧(QK f k).t=n
instance(f:Int→List UInt8)(n:Int):Decidable (JH f n):=by unfold JH;infer_instance
def JP:List UInt8:=[70,76,79,84,0,0,0,0,0,0,0,0,0,0,0,0,0,0,0,0,0,0,0,0,0,0,0,0,0,0,0,0]
theorem QFe:FnC Tryz.prog 101 [] (.dg 32 (QF JP)):=by
 refine QL QQl ?_
 (repeat' ((conv=>whnf);first|with_reducible refine AtA.mk' ?_|refine QB ?_|intro x hx hu|intro h|refine Spp.mk ?_ ?_))
 rfl
theorem QKd:FnC Tryz.prog 154 [] (.dg 32 (QF JP)):=by
 have hf:=QES 0 4
 refine QL QQ0 ?_
 (repeat' ((conv=>whnf);first|((with_reducible refine QFK ?_);refine J4.vec ?_)|((with_reducible refine Q8 ?_);refine OpX.conv QA rfl rfl (by with_unfolding_all exact rfl) (by with_unfolding_all exact rfl) (by with_unfolding_all exact rfl) (bll rfl) (by with_unfolding_all exact rfl) rfl (by with_unfolding_all exact rfl) rfl ?_)|refine cEk hf ?_|refine CallE.inl ?_|with_reducible refine CallI.inl QA QQ9 rfl ?_|with_reducible refine CallI.inl QA QPY rfl ?_|with_reducible refine AtA.mk' ?_|refine QB ?_|intro x hx hu|intro h|refine Spp.mk ?_ ?_))
 rfl
def QAF(m:List (List UInt8)):Prop:=m.length=65∧imS m 0=JP∧QFd (imS m 1)∧(QCa (imS m 1)).k=2
instance(m:List (List UInt8)):Decidable (QAF m):=by unfold QAF;infer_instance
theorem QCI{ty:Ty}(ha:ty.kd.agg=true)(hz:ty.size=32){s:List UInt8}(hs:s.length=32):ldD ty (QF s)= .dg 32 (QF s):=by
 unfold ldD
 rw[ha,cond_true,hz,yd (by rw[ZT,hs];exact zr _)]
theorem QKe{b:Bool}{A B:Prop}(h:Spl b A B):Spl b A B:=h
theorem QRf{b:Bool}(h:b=true):(!b)=false:=by rw[h];rfl
theorem QRg{b:Bool}(h:b=false):(!b)=true:=by rw[h];rfl
theorem QJQ(m:List (List UInt8))(hm:QEV m):FnC Tryz.prog 100 [.d (QBH m)] (.d (.bl (decide (QAF m)))):=by
 have hml:(m.map QF).length=m.length:=ze ..
 by_cases h:m.length=65
 ·obtain ⟨s0,hs0⟩:=ZD (l:=m) (k:=0) (by omega)
  obtain⟨s1,hs1⟩:=ZD (l:=m) (k:=1) (by omega)
  have l0:=hm s0 (yi hs0)
  have l1:=hm s1 (yi hs1)
  have e0:imS m 0=s0:=by unfold imS;rw[z1];show(m[0]?).getD _=_;rw[hs0];rfl
  have e1:imS m 1=s1:=by unfold imS;rw[z1];show(m[1]?).getD _=_;rw[hs1];rfl
  have hs0':m[(0:Int).toNat]? =some s0:=hs0
  have hs1':m[(1:Int).toNat]? =some s1:=hs1
  have hsup:=QKd
  have hi:=QFX s1 l1
  rw[QDg]at hi
  have hP:QAF m↔(s0=JP∧QFd s1∧(QCa s1).k=2):=by unfold QAF;rw[e0,e1];exact⟨fun q=>q.2,fun q=>⟨h,q⟩⟩
  have heq:=eqS s0 JP (by rw[l0];rfl)
  have hlk:=JM s0 JP l0 rfl
  by_cases h0:s0=JP
  ·rw [decide_eq_true h0]at heq
   by_cases h1:QFd s1
   all_goals (
    first|rw[decide_eq_true h1]at hi|rw[decide_eq_false h1]at hi
    refine QL QNv ?_
    (repeat' ((conv=>whnf);first|with_reducible refine QBG (x:=s0) (by omega) hs0' ?_|with_reducible refine QBG (x:=s1) (by omega) hs1' ?_|((with_reducible refine ZL ?_);first|refine AtA.eq (QCI rfl rfl l0) ?_|refine AtA.eq (QCI rfl rfl l1) ?_)|refine Ze.mk ⟨_,hsup,?_⟩|refine cEk hsup ?_|refine cEk hi ?_|refine XZ hlk ?_|((with_reducible refine QKe ?_);refine Spl.no (QRf heq) ?_)|refine QB ?_|intro x hx hu|intro h|refine Spp.mk ?_ ?_))
    all_goals first|exact JO (fun q=>h1 (hP.1 q).2.1)|(refine QPq ?_;rw[beq_iff_eq,hP];exact⟨fun q=>⟨h0,h1,q⟩,fun q=>q.2.2⟩)|skip)
  ·rw [decide_eq_false h0]at heq
   refine QL QNv ?_
   (repeat' ((conv=>whnf);first|with_reducible refine QBG (x:=s0) (by omega) hs0' ?_|with_reducible refine QBG (x:=s1) (by omega) hs1' ?_|((with_reducible refine ZL ?_);first|refine AtA.eq (QCI rfl rfl l0) ?_|refine AtA.eq (QCI rfl rfl l1) ?_)|refine Ze.mk ⟨_,hsup,?_⟩|refine cEk hsup ?_|refine cEk hi ?_|refine XZ hlk ?_|((with_reducible refine QKe ?_);refine Spl.yes (QRg heq) ?_)|refine QB ?_|intro x hx hu|intro h|refine Spp.mk ?_ ?_))
   all_goals exact JO (fun q=>h0 (hP.1 q).1)
 ·refine QL QNv ?_
  (repeat' ((conv=>whnf);first|refine QB ?_|intro x hx hu|intro h|refine Spp.mk ?_ ?_))
  all_goals first|omega|exact JO (fun q=>h q.1)
def ZN(g:Nat→UInt8):List UInt8:=[g 0,g 1,g 2,g 3,g 4,g 5,g 6,g 7,g 8,g 9,g 10,g 11,g 12,g 13,g 14,g 15,g 16,g 17,g 18,g 19,g 20,g 21,g 22,g 23,g 24,g 25,g 26,g 27,g 28,g 29,g 30,g 31]
theorem Xy{s:List UInt8}(h:s.length=32):∃g,s=ZN g:=by
 refine⟨fun i=>s.getD i 0,?_⟩
 refine ud (by rw[h];rfl) fun i h1 h2=>?_
 have h3:ZN (fun i=>s.getD i 0)=(List.range 32).map (fun i=>s.getD i 0):=rfl
 simp only[h3,zx,xy]
 rw[z1,zm h1];rfl
def QNj(w:Wr):List D:=[.it .i64 1]++Qx w++[.fs 2 []]
def okW(n:Nat)(w:Wr):Bool:=decide (0≤w.a∧w.a<n)
def wts(n:Nat)(ws:List Wr):List Wr:=(ws.filter (okW n)).map fun w=> {w with e:=0}
def QPv(m:List (List UInt8))(ws:List Wr):Option Dk:=if 1≤m.length∧m.length≤65 then some ⟨ws.length,m,wts m.length ws,(wts m.length ws).map QNj,0⟩else none
def YQ(d:Option Dk):List (List UInt8):=match d with
 |none=>[]
 |some dk=>(List.range dk.safe.length).map fun k:Nat=>rdS d (k:Nat)
theorem QMX{d:Option Dk}(h:XI d):QEV (YQ d):=by
 intro s hs
 cases d with
 |none=>cases hs
 |some dk=>
  obtain⟨k,_,rfl⟩:=yb.1 hs
  exact XX h _
theorem QOC{l:List D}{n:Nat}(h:l.length=n):Zp n 1 ([]++l++[])=[l]:=by
 show [([]++l++[]).take n]=_
 rw[y3,y7,yd (by omega)]
def mtA(d:Option Dk)(i:Nat):S:=⟨[(0,.d (QS d)),(3,.ts 32 (((List.range i).map fun k:Nat=>rdS d (k:Nat)).map QF) 0),(7,.d (.it .i64 (i:Nat)))],[(0,.tail 37 true)],1⟩
theorem QCb(d:Option Dk)(hd:XI d):FnC Tryz.prog 45 [.d (QS d)] (.d (.bl (decide (QAF (YQ d))))):=by
 have hm:=QJQ _ (QMX hd)
 have hil:(YQ d).length≤65:=by
  cases d with
  |none=>exact yf _
  |some dk=>
   show((List.range dk.safe.length).map _).length≤65
   rw[ze,y5];exact hd.2.2.1
 have hhas:∀i:Nat,QFb d i↔i<(YQ d).length:=fun i=>by
  cases d with
  |none=>exact⟨fun h=>h.elim,fun h=>absurd h (Nat.not_lt_zero _)⟩
  |some dk=>
   show(0≤(i:Int)∧(i:Int)<dk.safe.length)↔i<((List.range dk.safe.length).map _).length
   rw[ze,y5];omega
 have himg:((List.range (YQ d).length).map fun k:Nat=>rdS d (k:Nat))=YQ d:=by
  cases d with
  |none=>rfl
  |some dk=>
   show((List.range ((List.range dk.safe.length).map _).length).map _)=_
   rw[ze,y5];rfl
 refine QL i45 ?_
 (repeat' ((conv=>whnf);first|refine QB ?_|intro x hx hu|intro h|refine Spp.mk ?_ ?_))
 conv=>whnf
 refine Zb QA (fun i:Nat=>i≤(YQ d).length) (mtA d) (fun i=>66-i) 0 (yf _) ⟨ai rfl (ai rfl (ai rfl trivial)),ai rfl trivial,rfl⟩ ?_
 intro i hi
 have hr:=QAe d hd i
 have hlen:(((List.range i).map fun k:Nat=>rdS d (k:Nat)).map QF).length=i:=by simp
 rcases yq i (YQ d).length with hlt|hge
 ·rw [show rdE d i=0 from if_pos ((hhas i).2 hlt)]at hr
  have hs:=XX hd i
  have hrl:(List.range i).length=i:=y5
  (repeat' ((conv=>whnf);first|refine cEk hr ?_|((with_reducible refine letC_id ?_);refine Z8.mk ((QF (rdS d i)).map AV.d) (JN _) ?_)|((with_reducible refine ZL ?_);refine AtA.eq (ZI rfl rfl hs) ?_)|refine QB ?_|intro x hx hu|intro h|refine Spp.mk ?_ ?_))
  refine again (i+1) (by omega) (by dsimp only;omega) (ai rfl (ai (QIx ?_) (ai (QW (by omega)) trivial))) (ai rfl trivial) rfl
  rw[wn,yv,yv]
  exact congrArg _ (QOC (by rw[ZT];exact hs))
 ·have hie:i=(YQ d).length:=by omega
  rw[show rdE d i=1 from if_neg (fun q=>by have:=(hhas i).1 q;omega)]at hr
  have hmi:FnC Tryz.prog 100 [.d (.fs 32 ((((List.range i).map fun k:Nat=>rdS d (k:Nat))).map QF))] (.d (.bl (decide (QAF (YQ d))))):=by rw[hie,himg];exact hm
  by_cases h65:i<65
  ·(repeat' ((conv=>whnf);first|refine cEk hr ?_|refine cEk hmi ?_|((with_reducible refine letC_id ?_);refine Z8.mk ((QF (rdS d i)).map AV.d) (JN _) ?_)|refine QB ?_|intro x hx hu|intro h|refine Spp.mk ?_ ?_))
   rfl
  ·(repeat' ((conv=>whnf);first|refine cEk hmi ?_|refine QB ?_|intro x hx hu|intro h|refine Spp.mk ?_ ?_))
   rfl
def Xz(m:List (List UInt8))(w:Wr):List (List UInt8):=if 0≤w.a∧w.a<m.length then m.set w.a.toNat w.s else m
def Qi(m:List (List UInt8))(ws:List Wr):List (List UInt8):=ws.foldl Xz m
theorem QKf(m:List (List UInt8))(w:Wr):(Xz m w).length=m.length:=by unfold Xz;split<;>simp
theorem X4(m:List (List UInt8)):∀ws:List Wr,(Qi m ws).length=m.length:=by
 intro ws
 induction ws generalizing m with
 |nil=>rfl
 |cons w t ih=>
  show(Qi (Xz m w) t).length=_
  rw[ih,QKf]
def QHE(f:Int→List UInt8)(p:Int)(k:Nat):Prop:=(QK f k).u=true∧(QK f k).p=p∧(Qy f (QK f k).t).k≠0
instance(f:Int→List UInt8)(p:Int)(k:Nat):Decidable (QHE f p k):=by unfold QHE;infer_instance
def QB9(f:Int→List UInt8)(p:Int)(s:List UInt8)(k:Nat):Prop:=QHE f p k∧(QK f k).n=s
instance(f:Int→List UInt8)(p:Int)(s:List UInt8)(k:Nat):Decidable (QB9 f p s k):=by unfold QB9;infer_instance
def JQ(f:Int→List UInt8)(p:Int)(s:List UInt8):Option Nat:=(List.range 24).find? fun k=>decide (QB9 f p s k)
def QCc(o:Option Nat):AV:=match o with
 |some k=> .tup [.d (.it .i64 (k:Nat)),.d (.bl true)]
 |none=> .tup [.d (.it .i64 0),.d (.bl false)]
theorem QJR{f:Int→List UInt8}{p:Int}{s:List UInt8}{k:Nat}(hk:k<24)(h:QB9 f p s k)(hn:∀j:Nat,j<k→¬QB9 f p s j):JQ f p s=some k:=by
 unfold JQ
 refine je.2 ⟨decide_eq_true h,k,by simpa using hk,by simp,fun j hj=>?_⟩
 simp only[xy]
 simpa using hn j hj
theorem QJS{f:Int→List UInt8}{p:Int}{s:List UInt8}(hn:∀j:Nat,j<24→¬QB9 f p s j):JQ f p s=none:=by
 unfold JQ
 rw[List.find?_eq_none]
 intro j hj
 simpa using hn j (xd.1 hj)
def fdA(F1 F2:Func)(d:Option Dk)(p:Int)(s:List UInt8)(k:Nat):S:=⟨[(0,.yld 12),(1,.ptr 10 0),(5,.d (.it .i64 (k:Nat)))],
  [(12,rgL 11 F1),(11,.frame 30 [(1,.ptr 4 0),(2,.ptr 5 0),(3,.ptr 8 0)]),(10,.cells 1 [.d (QS d)]),(8,.cells 1 [.yld 7]),(7,rgL 6 F2),(6,.frame 21 [(5,.ptr 0 0),(6,.ptr 1 0),(7,.ptr 2 0)]),
   (5,.cells 1 [.d (.it .i64 p)]),(4,.cells 1 [.d (QS d)]),(2,.cells 1 [.d (.bl false)]),(1,.cells 1 [.d (.it .i64 0)]),(0,.cells 1 [.d (.st s)])],13⟩
theorem QIM(d:Option Dk)(hd:XI d)(p:Int)(s:List UInt8):FnC Tryz.prog 112 [.d (QS d),.d (.it .i64 p),.d (.st s)] (QCc (JQ (rdS d) p s)):=by
 have he:=fun k=>Xf d hd k
 generalize hR:QCc (JQ (rdS d) p s)=R
 have hRP:R.isP=true:=by rw[←hR];unfold QCc;split<;>rfl
 refine FnC.intro QA Tryz.func112 rfl Tryz.ntmps112 Tryz.call112 rfl (bll rfl) hRP ?_
 (repeat' ((conv=>whnf);first|refine CallE.inl ?_|with_reducible refine CallI.inl QA QPa rfl ?_|refine QB ?_|intro x hx hu|intro h|refine Spp.mk ?_ ?_))
 conv=>whnf
 refine Xv.intro QA QPh rfl rfl ?_
 (repeat' ((conv=>whnf);first|refine CallE.inl ?_|with_reducible refine CallI.inl QA QPi rfl ?_|refine QB ?_|intro x hx hu|intro h|refine Spp.mk ?_ ?_))
 conv=>whnf
 refine Xv.intro QA QPk rfl rfl ?_
 (repeat' ((conv=>whnf);first|refine QB ?_|intro x hx hu|intro h|refine Spp.mk ?_ ?_))
 conv=>whnf
 refine Q4.wk (τ:=fdA Tryz.f213 Tryz.f112 d p s 0) (Wk.enF (ai rfl (ai rfl (ai rfl trivial))) (by (repeat (first|exact trivial|refine ai (Yh rfl (by with_unfolding_all exact rfl)) ?_|refine ai (Yg (by with_unfolding_all exact rfl) (by (repeat (first|exact trivial|refine ai (by with_unfolding_all exact rfl) ?_)))) ?_))) rfl) ?_
 conv=>whnf
 refine Qs QA (fun k:Nat=>k≤24∧∀j:Nat,j<k→¬QB9 (rdS d) p s j) (fdA Tryz.f213 Tryz.f112 d p s) (fun k=>24-k) 0 ⟨yf _,fun j hj=>by omega⟩ (Wk.en ⟨ai rfl (ai rfl (ai rfl trivial)),(by (repeat (first|exact trivial|refine ai rfl ?_))),rfl⟩) ?_
 intro k hk0
 have k1:=hk0.1
 have k2:=hk0.2
 by_cases hk:k<24
 ·have hek:=he (k:Nat)
  have next:¬QB9 (rdS d) p s k→∀j:Nat,j<k+1→¬QB9 (rdS d) p s j:=fun hn j hj=>by
   rcases yq j k with hjk|hjk
   ·exact k2 j hjk
   ·obtain rfl:j=k:=by omega
    exact hn
  by_cases hu:(QK (rdS d) k).u=false
  ·have hek':J1 (QK (rdS d) k)=[.bl false,.it .i64 (QK (rdS d) k).p,.st (QK (rdS d) k).n,.it .i64 (QK (rdS d) k).t]:=by rw[J1,hu]
   rw[hek']at hek
   (repeat' ((conv=>whnf);first|refine cEk hek ?_|refine QB ?_|intro x hx hu|intro h|refine Spp.mk ?_ ?_))
   refine⟨k+1,⟨by omega,next (fun q=>by rw[q.1.1]at hu;cases hu)⟩,by dsimp only;omega,Wk.enF (ai rfl (ai rfl (ai (QW (by omega)) trivial))) (by (repeat (first|exact trivial|refine ai (Yh rfl (by with_unfolding_all exact rfl)) ?_|refine ai (Yg (by with_unfolding_all exact rfl) (by (repeat (first|exact trivial|refine ai (by with_unfolding_all exact rfl) ?_)))) ?_))) rfl⟩
  ·have hu':(QK (rdS d) k).u=true:=by simpa using hu
   have hek':J1 (QK (rdS d) k)=[.bl true,.it .i64 (QK (rdS d) k).p,.st (QK (rdS d) k).n,.it .i64 (QK (rdS d) k).t]:=by rw[J1,hu']
   rw[hek']at hek
   have hin:=Xe d hd (QK (rdS d) k).t
   (repeat' ((conv=>whnf);first|refine cEk hek ?_|refine cEk hin ?_|with_reducible refine QBX.intro QA (by with_unfolding_all exact rfl) (by with_unfolding_all exact rfl) (by with_unfolding_all exact rfl) ?_|refine QB ?_|intro x hx hu|intro h|refine Spp.mk ?_ ?_))
   ·have hv:QCc (JQ (rdS d) p s)=QCc (some k):=by rw[QJR hk ⟨⟨hu',by assumption,by assumption⟩,by assumption⟩ k2]
    exact hv.symm.trans hR
   ·refine ⟨k+1,⟨by omega,next (fun q=>(by assumption:¬_) q.2)⟩,by dsimp only;omega,Wk.enF (ai rfl (ai rfl (ai (QW (by omega)) trivial))) (by (repeat (first|exact trivial|refine ai (Yh rfl (by with_unfolding_all exact rfl)) ?_|refine ai (Yg (by with_unfolding_all exact rfl) (by (repeat (first|exact trivial|refine ai (by with_unfolding_all exact rfl) ?_)))) ?_))) rfl⟩
   ·refine ⟨k+1,⟨by omega,next (fun q=>q.1.2.2 (by assumption))⟩,by dsimp only;omega,Wk.enF (ai rfl (ai rfl (ai (QW (by omega)) trivial))) (by (repeat (first|exact trivial|refine ai (Yh rfl (by with_unfolding_all exact rfl)) ?_|refine ai (Yg (by with_unfolding_all exact rfl) (by (repeat (first|exact trivial|refine ai (by with_unfolding_all exact rfl) ?_)))) ?_))) rfl⟩
   ·refine ⟨k+1,⟨by omega,next (fun q=>(by assumption:¬_) q.1.2.1)⟩,by dsimp only;omega,Wk.enF (ai rfl (ai rfl (ai (QW (by omega)) trivial))) (by (repeat (first|exact trivial|refine ai (Yh rfl (by with_unfolding_all exact rfl)) ?_|refine ai (Yg (by with_unfolding_all exact rfl) (by (repeat (first|exact trivial|refine ai (by with_unfolding_all exact rfl) ?_)))) ?_))) rfl⟩
 ·(repeat' ((conv=>whnf);first|refine QB ?_|intro x hx hu|intro h|refine Spp.mk ?_ ?_))
  have hv:QCc (JQ (rdS d) p s)=QCc none:=by rw[QJS fun j hj=>k2 j (by omega)]
  exact hv.symm.trans hR
def JD(l:List (List UInt8)):List (List UInt8):=l.mergeSort fun x y=>decide (x≤y)
def vS(l:List (List UInt8)):List (List D):=l.map fun z=>[.st z]
theorem QDh(l:List (List UInt8)):(JD l).length=l.length:=uq _
theorem QKg(t:Nat)(fl:Bool)(zs:List (List UInt8))(n:Nat)(hn:zs.length=n)(h0:0<n)(hsz:n<4611686018427387904):FnM Tryz.prog 174 true [.vx 1 0 0 n] (.vec t 1 (vS zs) fl) (.vec t 1 (vS (JD zs)) fl) (.tup []):=by
 subst hn
 exact FnM.ofRow (fun l:List UInt8=>Value.string ⟨l.toArray⟩) (fun z=> .st z) (fun F x=> .st _) (fun F x v h=>by cases h;rfl) (m:=none) (uq _) h0 (fun q h=>by cases h) Tryz.call174 (fun blk off cap w hH hb hc=>(Tryz.slices_Sort_string blk off cap zs w hH hb hsz).mono fun e w' h=>h)
theorem QFf(t:Nat)(fl:Bool)(n:Nat)(zs:List (List UInt8))(hn:zs.length=n)(h0:0<n)(hsz:n<4611686018427387904):FnM Tryz.prog 175 true [.vx 1 0 0 n] (.vec t 1 (vS zs) fl) (.vec t 1 (vS (Lib.compact zs++List.replicate (zs.length-(Lib.compact zs).length) [])) fl) (.vx 1 0 0 (Lib.compact zs).length):=by
 subst hn
 exact FnM.ofRow (fun l:List UInt8=>Value.string ⟨l.toArray⟩) (fun z=> .st z) (fun F x=> .st _) (fun F x v h=>by cases h;rfl) (m:=some (Lib.compact zs).length) (by have:=Lib.compact_length_le zs;simp;omega) h0 (fun q h=>by cases h;exact Lib.compact_length_le zs) Tryz.call175 (fun blk off cap w hH hb hc=>(Tryz.slices_Compact_string blk off cap zs w hH (by omega) hc).mono fun e w' ⟨h1,q,h2⟩=>⟨h1,q,#[],by rw[Go.Sort.grow_empty];exact h2⟩)
def Zo(f:Int→List UInt8)(p:Int)(k:Nat):List (List UInt8):=((List.range k).filter fun j=>decide (QHE f p j)).map fun j:Nat=>(QK f (j:Nat)).n
def nms(f:Int→List UInt8)(p:Int):List (List UInt8):=Lib.compact (JD (Zo f p 24))
theorem QFg(f:Int→List UInt8)(p:Int)(k:Nat):(Zo f p k).length≤k:=by
 unfold Zo
 rw[ze]
 exact xj (ur _ _) (by rw[y5];exact zr _)
theorem QKh{f:Int→List UInt8}{p:Int}{k:Nat}(h:QHE f p k):Zo f p (k+1)=Zo f p k++[(QK f (k:Nat)).n]:=by
 unfold Zo
 rw[wn,vr,yv]
 simp[h]
theorem QEW{f:Int→List UInt8}{p:Int}{k:Nat}(h:¬QHE f p k):Zo f p (k+1)=Zo f p k:=by
 unfold Zo
 rw[wn,vr,yv]
 simp[h]
def lsA(F1 F2:Func)(d:Option Dk)(p:Int)(k:Nat)(L:List (List UInt8)):S:=⟨[(0,.yld 11),(1,.ptr 9 0),(5,.d (.it .i64 (k:Nat)))],
  [(11,rgL 10 F1),(10,.frame 30 [(1,.ptr 3 0),(2,.ptr 4 0),(3,.ptr 7 0)]),(9,.cells 1 [.d (QS d)]),(7,.cells 1 [.yld 6]),(6,rgL 5 F2),(5,.frame 23 [(5,.ptr 1 0)]),
   (4,.cells 1 [.d (.it .i64 p)]),(3,.cells 1 [.d (QS d)]),(1,.cells 1 [.vx 1 12 0 L.length]),(12,.vec 9 1 (vS L) false)],13⟩
theorem QIN{N:Nat}{σ τ τ':S}(e:τ'=τ)(h:Wk N σ τ'):Wk N σ τ:=by rw[←e];exact h
theorem QMY{e:List (List D)}{K:List (List D)→Prop}(h:YS e K):YS e K:=h
theorem QMZ{e:Nat}{K:Nat→Prop}(h:Zy e K):Zy e K:=h
theorem QOD{L:List (List UInt8)}{x:List UInt8}{n:Nat}(h:n=L.length):(vS L).take n++[[.st x]]=vS (L++[x]):=by
 subst h
 unfold vS
 rw[yd (by rw[ze];exact zr _),yv];rfl
theorem QMa(d:Option Dk)(hd:XI d)(p:Int):FnC Tryz.prog 128 [.d (QS d),.d (.it .i64 p)] (.d (.fs 1 (vS (nms (rdS d) p)))):=by
 have he:=fun k=>Xf d hd k
 refine QL QQv ?_
 (repeat' ((conv=>whnf);first|refine CallE.inl ?_|with_reducible refine CallI.inl QA QPa rfl ?_|refine QB ?_|intro x hx hu|intro h|refine Spp.mk ?_ ?_))
 conv=>whnf
 refine Xv.intro QA QPh rfl rfl ?_
 (repeat' ((conv=>whnf);first|refine CallE.inl ?_|with_reducible refine CallI.inl QA QPi rfl ?_|refine QB ?_|intro x hx hu|intro h|refine Spp.mk ?_ ?_))
 conv=>whnf
 refine Xv.intro QA QPk rfl rfl ?_
 (repeat' ((conv=>whnf);first|refine QB ?_|intro x hx hu|intro h|refine Spp.mk ?_ ?_))
 conv=>whnf
 refine Q4.wk (Wk.nlVx 1 0 1 1 9 (by with_unfolding_all exact rfl) (by with_unfolding_all exact rfl)) ?_
 refine Q4.wk (τ:=lsA Tryz.f213 Tryz.f128 d p 0 []) (Wk.enF (ai rfl (ai rfl (ai rfl trivial))) (by (repeat (first|exact trivial|refine ai (Yh rfl (by with_unfolding_all exact rfl)) ?_|refine ai (Yg (by with_unfolding_all exact rfl) (by (repeat (first|exact trivial|refine ai (by with_unfolding_all exact rfl) ?_)))) ?_))) rfl) ?_
 conv=>whnf
 refine Qs QA (fun k:Nat=>k≤24) (fun k:Nat=>lsA Tryz.f213 Tryz.f128 d p k (Zo (rdS d) p k)) (fun k=>24-k) 0 (yf _) (Wk.en ⟨ai rfl (ai rfl (ai rfl trivial)),(by (repeat (first|exact trivial|refine ai rfl ?_))),rfl⟩) ?_
 intro k k1
 by_cases hk:k<24
 ·have hek:=he (k:Nat)
  have hln:=QFg (rdS d) p k
  have hlv:(vS (Zo (rdS d) p k)).length=(Zo (rdS d) p k).length:=ze ..
  by_cases hu:(QK (rdS d) k).u=false
  ·have hek':J1 (QK (rdS d) k)=[.bl false,.it .i64 (QK (rdS d) k).p,.st (QK (rdS d) k).n,.it .i64 (QK (rdS d) k).t]:=by rw[J1,hu]
   rw[hek']at hek
   have hno:Zo (rdS d) p (k+1)=Zo (rdS d) p k:=QEW (fun q=>by rw[q.1]at hu;cases hu)
   (repeat' ((conv=>whnf);first|refine cEk hek ?_|refine QB ?_|intro x hx hu|intro h|refine Spp.mk ?_ ?_))
   refine⟨k+1,by omega,by dsimp only;omega,QIN (congrArg (lsA Tryz.f213 Tryz.f128 d p (k+1)) hno.symm) (Wk.enF (ai rfl (ai rfl (ai (QW (by omega)) trivial))) (by (repeat (first|exact trivial|refine ai (Yh rfl (by with_unfolding_all exact rfl)) ?_|refine ai (Yg (by with_unfolding_all exact rfl) (by (repeat (first|exact trivial|refine ai (by with_unfolding_all exact rfl) ?_)))) ?_))) rfl)⟩
  ·have hu':(QK (rdS d) k).u=true:=by simpa using hu
   have hek':J1 (QK (rdS d) k)=[.bl true,.it .i64 (QK (rdS d) k).p,.st (QK (rdS d) k).n,.it .i64 (QK (rdS d) k).t]:=by rw[J1,hu']
   rw[hek']at hek
   have hin:=Xe d hd (QK (rdS d) k).t
   (repeat' ((conv=>whnf);first|refine cEk hek ?_|refine cEk hin ?_|with_reducible refine QBX.intro QA (by with_unfolding_all exact rfl) (by with_unfolding_all exact rfl) (by with_unfolding_all exact rfl) ?_|((with_reducible refine QMY ?_);refine YS.mk (vS (Zo (rdS d) p k++[(QK (rdS d) k).n])) (QOD rfl).symm ?_)|((with_reducible refine QMZ ?_);refine Zy.eq (Zo (rdS d) p k++[(QK (rdS d) k).n]).length (by rw[zt];rfl) ?_)|refine QB ?_|intro x hx hu|intro h|refine Spp.mk ?_ ?_))
   ·have hyes:=QKh (f:=rdS d) (p:=p) (k:=k) ⟨hu',by assumption,by assumption⟩
    refine⟨k+1,by omega,by dsimp only;omega,QIN (congrArg (lsA Tryz.f213 Tryz.f128 d p (k+1)) hyes.symm) (Wk.enF (ai rfl (ai rfl (ai (QW (by omega)) trivial))) (by (repeat (first|exact trivial|refine ai (Yh rfl (by with_unfolding_all exact rfl)) ?_|refine ai (Yg (by with_unfolding_all exact rfl) (by (repeat (first|exact trivial|refine ai (by with_unfolding_all exact rfl) ?_)))) ?_))) rfl)⟩
   ·have hno:Zo (rdS d) p (k+1)=Zo (rdS d) p k:=QEW (fun q=>q.2.2 (by assumption))
    refine⟨k+1,by omega,by dsimp only;omega,QIN (congrArg (lsA Tryz.f213 Tryz.f128 d p (k+1)) hno.symm) (Wk.enF (ai rfl (ai rfl (ai (QW (by omega)) trivial))) (by (repeat (first|exact trivial|refine ai (Yh rfl (by with_unfolding_all exact rfl)) ?_|refine ai (Yg (by with_unfolding_all exact rfl) (by (repeat (first|exact trivial|refine ai (by with_unfolding_all exact rfl) ?_)))) ?_))) rfl)⟩
   ·have hno:Zo (rdS d) p (k+1)=Zo (rdS d) p k:=QEW (fun q=>(by assumption:¬_) q.2.1)
    refine⟨k+1,by omega,by dsimp only;omega,QIN (congrArg (lsA Tryz.f213 Tryz.f128 d p (k+1)) hno.symm) (Wk.enF (ai rfl (ai rfl (ai (QW (by omega)) trivial))) (by (repeat (first|exact trivial|refine ai (Yh rfl (by with_unfolding_all exact rfl)) ?_|refine ai (Yg (by with_unfolding_all exact rfl) (by (repeat (first|exact trivial|refine ai (by with_unfolding_all exact rfl) ?_)))) ?_))) rfl)⟩
 ·have hk24:k=24:=by omega
  have hln:=QFg (rdS d) p k
  have hR:nms (rdS d) p=Lib.compact (JD (Zo (rdS d) p k)):=by unfold nms;rw[hk24]
  by_cases hL:(Zo (rdS d) p k).length=0
  ·have hnil:Zo (rdS d) p k=[]:=yw.1 hL
   have hR0:nms (rdS d) p=[]:=by
    rw[hR,hnil]
    exact yw.1 (Nat.le_zero.1 (by have:=Lib.compact_length_le (JD ([]:List (List UInt8)));rw[QDh]at this;exact this))
   (repeat' ((conv=>whnf);first|refine CallE.inl ?_|refine CallI.none0 Tryz.call174 Tryz.slices_Sort_string_none (by with_unfolding_all exact rfl) hL ?_|refine CallI.same0 Tryz.call175 Tryz.slices_Compact_string_empty (by with_unfolding_all exact rfl) hL ?_|refine QB ?_|intro x hx hu|intro h|refine Spp.mk ?_ ?_))
   refine QNs ?_
   rw[hR0,hnil];rfl
  ·have hpos:0<(Zo (rdS d) p k).length:=by omega
   have hcl:(Lib.compact (JD (Zo (rdS d) p k))).length≤(JD (Zo (rdS d) p k)).length:=Lib.compact_length_le _
   (repeat' ((conv=>whnf);first|refine CallE.inl ?_|refine CallI.byM (QKg 9 false (Zo (rdS d) p k) _ rfl hpos (by omega)) (by with_unfolding_all exact rfl) rfl ?_|refine CallI.byM (QFf 9 false (Zo (rdS d) p k).length (JD (Zo (rdS d) p k)) (QDh _) hpos (by omega)) (by with_unfolding_all exact rfl) rfl ?_|refine QB ?_|intro x hx hu|intro h|refine Spp.mk ?_ ?_))
   refine ai ?_ ?_
   ·show 0+(Lib.compact (JD (Zo (rdS d) p k))).length≤(vS (Lib.compact (JD (Zo (rdS d) p k))++_)).length
    unfold vS
    rw[ze,zt];omega
   ·(repeat' ((conv=>whnf);first|refine QB ?_|intro x hx hu|intro h|refine Spp.mk ?_ ?_))
    refine QNs ?_
    rw[hR]
    show(List.drop 0 (vS (_++_))).take _=_
    unfold vS
    rw[vg,yv,List.take_left' (ze ..)]
def J6(f:Int→List UInt8)(n:Int)(s:List UInt8):Int×Int:=if(Qy f n).k=2 then(match JQ f n s with|none=>(0,4)|some k=>((QK f (k:Nat)).t,0))else(0,6)
def QDi(x:Int×Int):AV:= .tup [.d (.it .i64 x.1),.d (.it .i64 x.2)]
theorem QMb(d:Option Dk)(hd:XI d)(n:Int)(s:List UInt8):FnC Tryz.prog 54 [.d (QS d),.d (.it .i64 n),.d (.st s)] (QDi (J6 (rdS d) n s)):=by
 have hi:=Xe d hd n
 have hf:=QIM d hd n s
 unfold J6
 by_cases h2:(Qy (rdS d) n).k=2
 ·rw [if_pos h2]
  cases hk:JQ (rdS d) n s with
  |none=>
   rw[hk,QCc]at hf
   refine QL i54 ?_
   (repeat' ((conv=>whnf);first|refine cEk hi ?_|refine cEk hf ?_|refine QB ?_|intro x hx hu|intro h|refine Spp.mk ?_ ?_))
   rfl
  |some k=>
   rw[hk,QCc]at hf
   have he:=Xf d hd (k:Nat)
   refine QL i54 ?_
   (repeat' ((conv=>whnf);first|refine cEk hi ?_|refine cEk hf ?_|refine cEk he ?_|refine QB ?_|intro x hx hu|intro h|refine Spp.mk ?_ ?_))
   rfl
 ·rw [if_neg h2]
  refine QL i54 ?_
  (repeat' ((conv=>whnf);first|refine cEk hi ?_|refine QB ?_|intro x hx hu|intro h|refine Spp.mk ?_ ?_))
  rfl
def lkp(f:Int→List UInt8):List (List UInt8)→Int→Int×Int
 |[],n=>(n,0)
 |s::t,n=>if(J6 f n s).2=0 then lkp f t (J6 f n s).1 else(0,(J6 f n s).2)
def Qa(f:Int→List UInt8)(p:List UInt8):Int×Int:=if(QH p).2=0 then lkp f (QH p).1 0 else(0,(QH p).2)
def lkI(f:Int→List UInt8)(ns:List (List UInt8))(r:Int×Int)(x:Nat×Int):Prop:=x.1≤ns.length∧lkp f (ns.drop x.1) x.2=r
theorem QHF{p:List UInt8}(h:¬(QH p).2=0):(QH p).1=[]:=by
 unfold QH at h⊢
 split
 ·rfl
 ·rename_i h1
  rw[if_neg h1]at h
  cases p with
  |nil=>rfl
  |cons b r=>
   simp only at h⊢
   split
   ·rename_i h2
    rw[if_pos h2]at h
    split
    ·rename_i h3;rw[if_pos h3]at h;exact(h rfl).elim
    ·rfl
   ·rfl
theorem YD(p:List UInt8):(QH p).1.length≤4:=by
 unfold QH
 split
 ·exact yf _
 ·split
  ·exact yf _
  ·split
   ·split
    ·rename_i h3;exact h3.1
    ·exact yf _
   ·exact yf _
theorem X5(d:Option Dk)(hd:XI d)(p:List UInt8)(hp:p.length≤100000):FnC Tryz.prog 13 [.d (QS d),.d (.st p)] (QDi (Qa (rdS d) p)):=by
 have hs:=Zj p hp
 have hst:=fun n s=>QMb d hd n s
 generalize hR:Qa (rdS d) p=R
 unfold Qa at hR
 have hN:(QH p).1.map stL=(QH p).1.map stL:=rfl
 unfold QJL at hs
 by_cases he:(QH p).2=0
 ·rw [if_pos he]at hR
  rw[he]at hs
  have hnb:=YD p
  generalize hns:(QH p).1=ns at hs hR hnb
  have hnl:(ns.map stL).length=ns.length:=ze ..
  refine QL i13 ?_
  (repeat' ((conv=>whnf);first|refine cEk hs ?_|refine QB ?_|intro x hx hu|intro h|refine Spp.mk ?_ ?_))
  conv=>whnf
  refine Zb QA (lkI (rdS d) ns R) (fun x=>⟨[(0,.d (QS d)),(7,.d (.it .i64 0)),(8,.d (.it .i64 x.2)),(16,.d (.fs 1 (ns.map stL))),(17,.d (.it .i64 (ns.length:Nat))),(18,.d (.it .i64 (x.1:Nat)))],[],0⟩) (fun x=>ns.length-x.1) (0,0) ⟨yf _,by rw[vg];exact hR⟩ ⟨ai rfl (ai rfl (ai rfl (ai rfl (ai (QW (by rw[hnl])) (ai rfl trivial))))),trivial,rfl⟩ ?_
  intro x hx
  have x1:=hx.1
  have x2:=hx.2
  by_cases hk:x.1<ns.length
  ·have hsx:=hst x.2 ns[x.1]
   have hget:ns[x.1]? =some ns[x.1]:=zm hk
   rw[qb hk,lkp]at x2
   unfold QDi at hsx
   by_cases hz:(J6 (rdS d) x.2 ns[x.1]).2=0
   ·rw [if_pos hz]at x2
    rw[hz]at hsx
    (repeat' ((conv=>whnf);first|refine cEk hsx ?_|with_reducible refine ZY hget ?_|refine QB ?_|intro x hx hu|intro h|refine Spp.mk ?_ ?_))
    refine again (x.1+1,(J6 (rdS d) x.2 ns[x.1]).1) ⟨hk,x2⟩ (by dsimp only;omega) (ai rfl (ai rfl (ai rfl (ai rfl (ai rfl (ai (QW (by dsimp only;omega)) trivial)))))) trivial rfl
   ·rw [if_neg hz]at x2
    (repeat' ((conv=>whnf);first|refine cEk hsx ?_|with_reducible refine ZY hget ?_|refine QB ?_|intro x hx hu|intro h|refine Spp.mk ?_ ?_))
    all_goals first|(exact congrArg QDi x2)|(exfalso;exact hz (by assumption))
  ·have hd0:ns.drop x.1=[]:=ul (by omega)
   rw[hd0,lkp]at x2
   (repeat' ((conv=>whnf);first|refine QB ?_|intro x hx hu|intro h|refine Spp.mk ?_ ?_))
   exact congrArg QDi x2
 ·rw [if_neg he]at hR
  rw[QHF he]at hs
  refine QL i13 ?_
  (repeat' ((conv=>whnf);first|refine cEk hs ?_|with_reducible refine Q4.unroll QA 1 ?_|refine QB ?_|intro x hx hu|intro h|refine Spp.mk ?_ ?_))
  exact congrArg QDi hR
theorem QFh(n:Int)(l:List Wr)(x:Wr):Xt n (l++[x])=if x.a=n then some x.s else Xt n l:=by
 unfold Xt
 rw[List.reverse_append]
 simp only[List.reverse_cons,List.reverse_nil,y3,qx,qp]
 by_cases h:x.a=n
 ·simp [h]
 ·simp [h]
theorem QCd{f g:Int→List UInt8}(h:∀n:Int,0≤n→f n=g n)(n:Int):Qy f n=Qy g n:=by
 unfold Qy
 split
 ·rw [h _ (by omega)]
 ·rfl
theorem QFi{f g:Int→List UInt8}(h:∀n:Int,0≤n→f n=g n)(n:Int):QK f n=QK g n:=by
 unfold QK
 split
 ·rw [h _ (by omega)]
 ·rfl
def wrD(d:Dk)(w:Wr):Dk:=⟨d.nx+1,d.safe,d.wait++[{w with e:=d.ep}],d.log++[QNj {w with e:=d.ep}],d.ep⟩
def w0:Wr:=⟨0,Q0,0,0,0⟩
def QKi(m:List (List D×D))(n:Int):List (List D×D):=JK m [.it .i64 n] (.it .i64 1)
def QAf(l:List Int):List (List D×D):=l.foldl QKi []
def gt0(m:List (List D×D))(n:Int):D:=match Q9 m [.it .i64 n]with|some v=>v|none=> .it .i64 0
theorem QFj(a b:Int):XA [.it .i64 a] [.it .i64 b]=decide (a=b):=by
 show((a==b)&&true)=_
 rw[x7];rfl
theorem QFk:∀(m:List (List D×D)) (hm:∀p∈m,∃a,p.1=[D.it .i64 a]) (x n:Int),gt0 (QKi m x) n=if n=x then .it .i64 1 else gt0 m n
 |[],_,x,n=>by
  unfold gt0 QKi
  simp only[JK,Q9,QFj]
  by_cases h:n=x
  ·rw [if_pos h,decide_eq_true h.symm];rfl
  ·rw [if_neg h,decide_eq_false (fun e=>h e.symm)];rfl
 |(k,u)::t,hm,x,n=>by
  obtain⟨a,rfl⟩:=hm _ zo
  have ih:=QFk t (fun p hp=>hm p (zk _ hp)) x n
  unfold gt0 QKi at ih⊢
  simp only[JK,Q9,QFj]
  by_cases ha:a=x
  ·subst ha
   rw[decide_eq_true rfl,cond_true]
   simp only[Q9,QFj]
   by_cases h:n=a
   ·rw [if_pos h,decide_eq_true h.symm];rfl
   ·rw [if_neg h,decide_eq_false (fun e=>h e.symm)];rfl
  ·rw [decide_eq_false ha,cond_false]
   simp only[Q9,QFj]
   by_cases han:a=n
   ·rw [decide_eq_true han,cond_true,cond_true,if_neg (fun e=>ha (by omega))]
   ·rw [decide_eq_false han,cond_false,cond_false];exact ih
theorem QBI:∀(m:List (List D×D)) (hm:∀p∈m,∃a,p.1=[D.it .i64 a]) (x:Int) (v:D),∀p∈JK m [.it .i64 x] v,∃a,p.1=[D.it .i64 a]
 |[],_,x,v,p,hp=>by
  rw[xm.1 hp];exact⟨x,rfl⟩
 |(k,u)::t,hm,x,v,p,hp=>by
  simp only[JK]at hp
  cases hq:XA k [.it .i64 x]with
  |true=>
   rw[hq,cond_true]at hp
   rcases zi.1 hp with rfl|hp
   ·exact ⟨x,rfl⟩
   ·exact hm p (zk _ hp)
  |false=>
   rw[hq,cond_false]at hp
   rcases zi.1 hp with rfl|hp
   ·exact hm _ zo
   ·exact QBI t (fun p hp=>hm p (zk _ hp)) x v p hp
theorem QDj(l:List Int)(x:Int):QAf (l++[x])=QKi (QAf l) x:=by unfold QAf;rw[ua];rfl
theorem QMc(l:List Int):(∀p∈QAf l,∃a,p.1=[D.it .i64 a])∧∀n,gt0 (QAf l) n= .it .i64 (if n∈l then 1 else 0):=by
 have key:∀k,k≤l.length→(∀p∈QAf (l.take k),∃a,p.1=[D.it .i64 a])∧∀n,gt0 (QAf (l.take k)) n= .it .i64 (if n∈l.take k then 1 else 0):=by
  intro k
  induction k with
  |zero=>intro _;refine⟨fun p hp=>?_,fun n=>rfl⟩;cases hp
  |succ k ih=>
   intro hk
   obtain⟨h1,h2⟩:=ih (by omega)
   obtain⟨x,hx⟩:=ZD (show k<l.length by omega)
   rw[Q3 hx,QDj]
   refine⟨fun p hp=>QBI _ h1 x _ p hp,fun n=>?_⟩
   rw[QFk _ h1,h2]
   by_cases h:n=x
   ·rw [if_pos h,if_pos (by simp[h])]
   ·rw [if_neg h]
    by_cases hn:n∈l.take k
    ·rw [if_pos hn,if_pos (wp _ hn)]
    ·rw [if_neg hn,if_neg (fun hm=>by
      rcases ye.1 hm with hm|hm
      ·exact hn hm
      ·exact h (xm.1 hm))]
 have:=key l.length (zr _)
 rwa [wz]at this
def bd(l:List Int)(n:Int):Int:=if n∈l then 1 else 0
theorem Jh(l:List Int)(n:Int):(match Q9 (QAf l) [.it .i64 n]with|some v=>v|none=> .it .i64 0)=D.it .i64 (bd l n):=(QMc l).2 n
def tk(d:Dk):Dk:=⟨d.nx+1,d.safe,d.wait,d.log,d.ep⟩
inductive Stp where
 |wr(w:Wr)
 |bar
def evB:List D:=[.it .i64 3]++Qx w0++[.fs 2 []]
def QJT(d:Dk):Dk:=⟨d.nx+1,d.safe,d.wait,d.log++[evB],d.ep+1⟩
def Ym(bad:List Int):Dk→List Stp→Dk×Int
 |d,[]=>(d,0)
 |d,.wr w::t=>if d.nx∈bad then(tk d,3)else Ym bad (wrD d w) t
 |d,.bar::t=>if d.nx∈bad then(tk d,3)else Ym bad (QJT d) t
def Z6(b:Bool)(bad:List Int)(d:Dk):List (Nat×Ob):=[(0,.cells 6 [.mp 3,.d (.it .i64 d.nx),.vx 32 4 0 d.safe.length,.ts 36 (d.wait.map Qx) 1,.ts 38 d.log 2,.d (.it .i64 d.ep)]),(1,.tail 49 true),(2,.tail 110 true),(3,.mp b false [.it .i64 0] (QAf bad)),(4,.vec 37 32 (d.safe.map QF) false)]
theorem QFl{q r u n l:Nat}{a b c e:List (List D)}{x y p p':Int}(h3:x=y)(h1:a=b)(h2:c=e)(h4:p=p'):Ob.cells 6 [.mp u,.d (.it .i64 x),.vx 32 n 0 l,.ts 36 a q,.ts 38 c r,.d (.it .i64 p)]=Ob.cells 6 [.mp u,.d (.it .i64 y),.vx 32 n 0 l,.ts 36 b q,.ts 38 e r,.d (.it .i64 p')]:=by rw[h1,h2,h3,h4]
structure DB(d:Dk)(N:Nat):Prop where
 nx:0≤d.nx∧d.nx≤N
 w:d.wait.length≤N
 l:d.log.length≤N
 s:d.safe.length≤65
 s0:d.safe.length≠0
theorem QOE(b:Bool)(bad:List Int)(d:Dk)(a:Int)(s:List UInt8)(hs:s.length=32)(k i:Int)(hb:DB d 1000000)(ha:0≤a∧a<d.safe.length):
  FnH Tryz.prog 148 [.ptr 0 0,.d (.it .i64 a),.dg 32 (QF s),.dg 2 [.it .i64 k,.it .i64 i]] (Z6 b bad d) 5 [0] (.d (.it .i64 (if d.nx∈bad then 3 else 0))) (Z6 b bad (if d.nx∈bad then tk d else wrD d ⟨a,s,k,i,0⟩)) 5:=by
 obtain⟨hn,hw,hlg,hsl,hs0⟩:=hb
 obtain⟨g,rfl⟩:=Xy hs
 have hl1:(d.safe.map QF).length=d.safe.length:=ze ..
 have hl2:(d.wait.map Qx).length=d.wait.length:=ze ..
 by_cases hbad:d.nx∈bad
 all_goals first|rw[if_pos hbad,if_pos hbad]|rw[if_neg hbad,if_neg hbad]
 ·have hb1:bd bad d.nx=1:=if_pos hbad
  refine QR QPU fun T=>?_
  (repeat' ((conv=>whnf);first|with_reducible refine AtA.mk' ?_|((with_reducible refine Q8 ?_);refine OpX.lookup (kx:= .it .i64 d.nx) rfl rfl Tryz.underlying89 Tryz.underlying3 rfl (fun w=>Tryz.zeroValue3 w) (fun F=> .it _ _) rfl rfl rfl rfl (Jh bad d.nx) ?_)|refine CallE.inl ?_|with_reducible refine CallI.inl QA i57 rfl ?_|with_reducible refine CallI.inl QA i51 rfl ?_|with_reducible refine CallI.inl QA QJG rfl ?_|with_reducible refine CallI.inl QA QKA rfl ?_|((with_reducible refine Qm ?_);first|refine Qj QA mixed (by decide+kernel) ?_|refine Qb QA mixed 0 (by decide+kernel) ?_)|refine QB ?_|intro x hx hu|intro h|refine Spp.mk ?_ ?_))
  all_goals first|(exfalso;omega)|skip
  refine Yw rfl (ai (QFl rfl rfl rfl rfl) (ai rfl (ai rfl (ai rfl (ai rfl trivial))))) (ai rfl (ai rfl trivial))
 ·have hb1:bd bad d.nx=0:=if_neg hbad
  refine QR QPU fun T=>?_
  (repeat' ((conv=>whnf);first|with_reducible refine AtA.mk' ?_|((with_reducible refine Q8 ?_);refine OpX.lookup (kx:= .it .i64 d.nx) rfl rfl Tryz.underlying89 Tryz.underlying3 rfl (fun w=>Tryz.zeroValue3 w) (fun F=> .it _ _) rfl rfl rfl rfl (Jh bad d.nx) ?_)|refine CallE.inl ?_|with_reducible refine CallI.inl QA i57 rfl ?_|with_reducible refine CallI.inl QA i51 rfl ?_|with_reducible refine CallI.inl QA QJG rfl ?_|with_reducible refine CallI.inl QA QKA rfl ?_|((with_reducible refine Qm ?_);first|refine Qj QA mixed (by decide+kernel) ?_|refine Qb QA mixed 0 (by decide+kernel) ?_)|refine QB ?_|intro x hx hu|intro h|refine Spp.mk ?_ ?_))
  all_goals first|(exfalso;omega)|skip
  refine Yw rfl (ai (QFl rfl ?_ rfl rfl) (ai rfl (ai rfl (ai rfl (ai rfl trivial))))) (ai rfl (ai rfl trivial))
  show _=(d.wait++[_]).map Qx
  rw[yv];rfl
theorem QIO(b:Bool)(bad:List Int)(d:Dk)(hb:DB d 1000000)(he:d.ep≤1000000∧ -1000000≤d.ep):
  FnH Tryz.prog 62 [.ptr 0 0] (Z6 b bad d) 5 [0] (.d (.it .i64 (if d.nx∈bad then 3 else 0))) (Z6 b bad (if d.nx∈bad then tk d else QJT d)) 5:=by
 obtain⟨hn,hw,hlg,hsl,hs0⟩:=hb
 have hl1:(d.safe.map QF).length=d.safe.length:=ze ..
 by_cases hbad:d.nx∈bad
 all_goals first|rw[if_pos hbad,if_pos hbad]|rw[if_neg hbad,if_neg hbad]
 ·have hb1:bd bad d.nx=1:=if_pos hbad
  refine QR i62 fun T=>?_
  (repeat' ((conv=>whnf);first|with_reducible refine AtA.mk' ?_|((with_reducible refine Q8 ?_);refine OpX.lookup (kx:= .it .i64 d.nx) rfl rfl Tryz.underlying89 Tryz.underlying3 rfl (fun w=>Tryz.zeroValue3 w) (fun F=> .it _ _) rfl rfl rfl rfl (Jh bad d.nx) ?_)|refine CallE.inl ?_|with_reducible refine CallI.inl QA i57 rfl ?_|with_reducible refine CallI.inl QA QJG rfl ?_|with_reducible refine CallI.inl QA QKA rfl ?_|((with_reducible refine Qm ?_);first|refine Qj QA mixed (by decide+kernel) ?_|refine Qb QA mixed 0 (by decide+kernel) ?_)|refine QB ?_|intro x hx hu|intro h|refine Spp.mk ?_ ?_))
  all_goals first|(exfalso;omega)|skip
  refine Yw rfl (ai (QFl rfl rfl rfl rfl) (ai rfl (ai rfl (ai rfl (ai rfl trivial))))) (ai rfl (ai rfl trivial))
 ·have hb1:bd bad d.nx=0:=if_neg hbad
  refine QR i62 fun T=>?_
  (repeat' ((conv=>whnf);first|with_reducible refine AtA.mk' ?_|((with_reducible refine Q8 ?_);refine OpX.lookup (kx:= .it .i64 d.nx) rfl rfl Tryz.underlying89 Tryz.underlying3 rfl (fun w=>Tryz.zeroValue3 w) (fun F=> .it _ _) rfl rfl rfl rfl (Jh bad d.nx) ?_)|refine CallE.inl ?_|with_reducible refine CallI.inl QA i57 rfl ?_|with_reducible refine CallI.inl QA QJG rfl ?_|with_reducible refine CallI.inl QA QKA rfl ?_|((with_reducible refine Qm ?_);first|refine Qj QA mixed (by decide+kernel) ?_|refine Qb QA mixed 0 (by decide+kernel) ?_)|refine QB ?_|intro x hx hu|intro h|refine Spp.mk ?_ ?_))
  all_goals first|(exfalso;omega)|skip
  refine Yw rfl (ai (QFl rfl rfl rfl rfl) (ai rfl (ai rfl (ai rfl (ai rfl trivial))))) (ai rfl (ai rfl trivial))
def QMd:List UInt8:=[2,0,0,0,0,0,0,0,0,0,0,0,0,0,0,0,0,0,0,0,0,0,0,0,0,0,0,0,0,0,0,0]
def Y0:List (List UInt8):=JP::QMd::List.replicate 63 Q0
def k1S:List UInt8:=[1,0,2,1,0,0,0,0,0,0,0,0,0,0,0,0,97,0,0,0,0,0,0,0,0,0,0,0,0,0,0,0]
def k2S:List UInt8:=[1,0,0,0,0,0,0,0,0,0,0,0,0,0,0,0,0,0,0,0,0,0,0,0,0,0,0,0,0,0,0,0]
def kW:List Wr:=[⟨17,k1S,0,0,0⟩,⟨3,k2S,0,0,0⟩]
theorem QKj:QEV Y0:=by
 intro s hs
 simp only[Y0,zi,List.mem_replicate]at hs
 rcases hs with rfl|rfl|⟨_,rfl⟩<;>rfl
theorem QKk:FnC Tryz.prog 46 [] (.d (QBH Y0)):=by
 have hs:=QFe
 refine QL i46 ?_
 (repeat' ((conv=>whnf);first|refine cEk hs ?_|refine QB ?_|intro x hx hu|intro h|refine Spp.mk ?_ ?_))
 refine⟨Y0.map QF,⟨?_,?_,?_,?_⟩,?_⟩
 ·exact ya (by kernel_rfl)
 ·kernel_rfl
 ·intro x hx
  obtain⟨s,hs,rfl⟩:=yb.1 hx
  rw[ZT];exact QKj s hs
 ·kernel_rfl
 ·rfl
def kD:Option Dk:=QPv Y0 kW
theorem f1:Qa (rdS kD) [47,97]=(2,0):=by decide+kernel
theorem f2:JQ (rdS kD) 0 [97]=some 0:=by decide+kernel
theorem f3:Qa (rdS kD) [47,98]=(0,4):=by decide+kernel
theorem f4:QAF (YQ kD):=by decide+kernel
theorem f5:Zo (rdS kD) 0 24=[[97]]:=by decide+kernel
theorem f6:JH (rdS kD) 2:=by decide+kernel
theorem f7:(Qy (rdS kD) 2).k=1:=by decide+kernel
theorem f8:(QK (rdS kD) 0).n=[97]:=by decide+kernel
theorem f9:(nms (rdS kD) 0).length=1:=by
 unfold nms
 rw[f5]
 have h:JD [[97]]=[[97]]:=by simp[JD]
 rw[h]
 decide+kernel
def QKl(kd:Int→Int)(R:List Bool)(x:Ent):Prop:=x.u=true∧R.getD x.p.toNat false=true∧kd x.p=2∧kd x.t≠0∧R.getD x.t.toNat false=false∧x.t.toNat<R.length
instance(kd:Int→Int)(R:List Bool)(x:Ent):Decidable (QKl kd R x):=by unfold QKl;infer_instance
def QCe(x:Ino):List Int:=[x.b0,x.b1,x.b2,x.b3]
structure XOK(I:List Ino)(E:List Ent)(R:List Bool):Prop where
 i:I.length=16
 e:E.length=24
 r:R.length=16
 p:∀x∈E,x.u=true→0≤x.p∧x.p<16∧1≤x.t∧x.t<16
section
variable {d:Option Dk} {I:List Ino} {E:List Ent} {R:List Bool}
end
def QPw(I:List Ino)(R:List Bool)(x:Ent):Prop:=x.u=true∧R.getD x.p.toNat false=true∧(I.getD x.p.toNat QFW).k=2
instance(I:List Ino)(R:List Bool)(x:Ent):Decidable (QPw I R x):=by unfold QPw;infer_instance
section
variable {d:Option Dk} {I:List Ino} {E:List Ent} {R:List Bool}
end
theorem QKm(f:Int→List UInt8)(k:Int):RE (QK f k):=by
 unfold QK
 split
 ·unfold QBo
  split
  ·rename_i h;exact h.1
  ·exact .inl ⟨rfl,rfl,rfl,rfl⟩
 ·exact .inl ⟨rfl,rfl,rfl,rfl⟩
def F16:List Bool:=List.replicate 16 false
def QPx(d:Option Dk)(k:Int):Prop:=QFb d (17+k)∧QDe (rdS d (17+k))=false
instance(d:Option Dk)(k:Int):Decidable (QPx d k):=by unfold QPx;infer_instance
theorem QFm(f:Int→List UInt8)(n:Int):RI (Qy f n):=by
 unfold Qy
 split
 ·unfold QCa
  split
  ·rename_i h;exact h.1
  ·exact .inl ⟨.inl rfl,rfl,rfl,rfl,rfl,rfl⟩
 ·exact .inl ⟨.inl rfl,rfl,rfl,rfl,rfl,rfl⟩
def Xu(x:Ino):Nat→Int
 |0=>x.b0
 |1=>x.b1
 |2=>x.b2
 |_=>x.b3
def YY:Stp→List D
 | .wr w=>Qx w++[.bl false]
 | .bar=>Qx w0++[.bl true]
def QDM(l:List Stp):List (Nat×Ob):=[(0,.cells 1 [.ts 37 (l.map YY) 1]),(1,.tail 243 true)]
theorem QNk{n q:Nat}{a b:List (List D)}(h:a=b):Ob.cells 1 [.ts n a q]=Ob.cells 1 [.ts n b q]:=by rw[h]
def Y1(x:Ino):List UInt8:=if RI x then QET x else Q0
def Z7(x:Ent):List UInt8:=if RE x then JG x else Q0
theorem QOF{x:Ino}(h:RI x):QKY (QB8 x)=QF (QET x):=QHA fun n hn=>by
 unfold QB8 at hn
 simp only[zi,y6,or_false]at hn
 rcases h with h|h
 ·omega
 ·omega
theorem QOG(x:Ino):QJP x= .tup [.dg 32 (QF (Y1 x)),.d (.bl (decide (RI x)))]:=by
 unfold QJP Y1
 by_cases h:RI x
 ·rw [if_pos h,if_pos h,decide_eq_true h,QOF h]
 ·rw [if_neg h,if_neg h,decide_eq_false h]
theorem QOH(x:Ent):QJN x= .tup [.dg 32 (QF (Z7 x)),.d (.bl (decide (RE x)))]:=by
 unfold QJN Z7
 by_cases h:RE x
 ·rw [if_pos h,if_pos h,decide_eq_true h]
 ·rw [if_neg h,if_neg h,decide_eq_false h]
theorem QAg(x:Ino):(Y1 x).length=32:=by
 unfold Y1
 split
 ·rfl
 ·rfl
theorem QAh(x:Ent):(Z7 x).length=32:=by
 unfold Z7
 split
 ·rename_i h
  unfold JG
  split
  ·rename_i hu
   have hn:Xb x.n=true:=by
    rcases h with h|h
    ·rw [h.1]at hu;cases hu
    ·exact h.2.2.2.2.2
   have:x.n.length≤8:=by
    unfold Xb at hn
    simp at hn;omega
   simp;omega
  ·rfl
 ·rfl
theorem QEX(l:List Stp)(hl:l.length≤100000)(a:Int)(s:List UInt8)(hs:s.length=32)(k i:Int):
  FnH Tryz.prog 177 [.ptr 0 0,.d (.it .i64 a),.dg 32 (QF s),.dg 2 [.it .i64 k,.it .i64 i]] (QDM l) 2 [0] (.tup []) (QDM (l++[.wr ⟨a,s,k,i,0⟩])) 2:=by
 obtain⟨g,rfl⟩:=Xy hs
 have hl1:(l.map YY).length=l.length:=ze ..
 refine QR QQ7 fun T=>?_
 (repeat' ((conv=>whnf);first|with_reducible refine AtA.mk' ?_|refine CallE.inl ?_|((with_reducible refine Qm ?_);first|refine Qj QA mixed (by decide+kernel) ?_|refine Qb QA mixed 0 (by decide+kernel) ?_)|refine QB ?_|intro x hx hu|intro h|refine Spp.mk ?_ ?_))
 conv=>whnf
 refine⟨_,⟨fun κ g a w hst=>⟨g,hst⟩⟩,rfl,ai (QNk ?_) (ai rfl trivial),ai rfl (ai rfl trivial)⟩
 show _=(l++[_]).map YY
 rw[yv];rfl
theorem QIP(l:List Stp)(hl:l.length≤100000):
  FnH Tryz.prog 184 [.ptr 0 0] (QDM l) 2 [0] (.tup []) (QDM (l++[.bar])) 2:=by
 have hl1:(l.map YY).length=l.length:=ze ..
 refine QR QQ8 fun T=>?_
 (repeat' ((conv=>whnf);first|with_reducible refine AtA.mk' ?_|refine CallE.inl ?_|((with_reducible refine Qm ?_);first|refine Qj QA mixed (by decide+kernel) ?_|refine Qb QA mixed 0 (by decide+kernel) ?_)|refine QB ?_|intro x hx hu|intro h|refine Spp.mk ?_ ?_))
 conv=>whnf
 refine⟨_,⟨fun κ g a w hst=>⟨g,hst⟩⟩,rfl,ai (QNk ?_) (ai rfl trivial),ai rfl (ai rfl trivial)⟩
 show _=(l++[_]).map YY
 rw[yv];rfl
theorem QEY(l:List Stp)(hl:l.length≤100000)(n:Int)(hn: -1000≤n∧n≤1000)(x:Ino)(k i:Int):
  FnH Tryz.prog 142 [.ptr 0 0,.d (.it .i64 n),.dg 6 (Xc x),.dg 2 [.it .i64 k,.it .i64 i]] (QDM l) 2 [0] (.tup []) (QDM (l++[.wr ⟨1+n,Y1 x,k,i,0⟩])) 2:=by
 have h1:=QKZ x
 rw[QOG]at h1
 have h2:=QEX l hl (1+n) (Y1 x) (QAg x) k i
 obtain⟨g,hg⟩:=Xy (QAg x)
 rw[hg]at h1 h2⊢
 refine QR QQy fun T=>?_
 (repeat' ((conv=>whnf);first|refine cEk h1 ?_|refine CallE.inl ?_|refine CallI.h h2 [0,1] ?_|refine QB ?_|intro x hx hu|intro h|refine Spp.mk ?_ ?_))
 conv=>whnf
 exact⟨_,⟨fun κ g a w hst=>⟨g,hst⟩⟩,rfl,ai rfl (ai rfl trivial),ai rfl (ai rfl trivial)⟩
theorem Ji(l:List Stp)(hl:l.length≤100000)(n:Int)(hn: -1000≤n∧n≤1000)(x:Ent)(i:Int):
  FnH Tryz.prog 129 [.ptr 0 0,.d (.it .i64 n),.dg 4 (J1 x),.d (.it .i64 i)] (QDM l) 2 [0] (.tup []) (QDM (l++[.wr ⟨17+n,Z7 x,3,i,0⟩])) 2:=by
 have h1:=QKV x
 rw[QOH]at h1
 have h2:=QEX l hl (17+n) (Z7 x) (QAh x) 3 i
 obtain⟨g,hg⟩:=Xy (QAh x)
 rw[hg]at h1 h2⊢
 refine QR QQw fun T=>?_
 (repeat' ((conv=>whnf);first|refine cEk h1 ?_|refine CallE.inl ?_|refine CallI.h h2 [0,1] ?_|refine QB ?_|intro x hx hu|intro h|refine Spp.mk ?_ ?_))
 conv=>whnf
 exact⟨_,⟨fun κ g a w hst=>⟨g,hst⟩⟩,rfl,ai rfl (ai rfl trivial),ai rfl (ai rfl trivial)⟩
theorem QMe(l:List Stp)(hl:l.length≤100000)(n:Int)(hn: -1000≤n∧n≤1000)(s:List UInt8)(hs:s.length=32)(i:Int):
  FnH Tryz.prog 160 [.ptr 0 0,.d (.it .i64 n),.dg 32 (QF s),.d (.it .i64 i)] (QDM l) 2 [0] (.tup []) (QDM (l++[.wr ⟨40+n,s,1,i,0⟩])) 2:=by
 have h2:=QEX l hl (41+n-1) s hs 1 i
 rw[show(⟨41+n-1,s,1,i,0⟩:Wr)=⟨40+n,s,1,i,0⟩ by rw[show(41:Int)+n-1=40+n by omega]]at h2
 obtain⟨g,rfl⟩:=Xy hs
 refine QR QQ1 fun T=>?_
 (repeat' ((conv=>whnf);first|refine CallE.inl ?_|refine CallI.h h2 [0,1] ?_|refine QB ?_|intro x hx hu|intro h|refine Spp.mk ?_ ?_))
 conv=>whnf
 exact⟨_,⟨fun κ g a w hst=>⟨g,hst⟩⟩,rfl,ai rfl (ai rfl trivial),ai rfl (ai rfl trivial)⟩
def XJ(p:List UInt8):List UInt8×List UInt8×Int:=
 if(QH p).2≠0 then([],[],(QH p).2)else if(QH p).1=[]then([],[],1)else(YC (QH p).1.dropLast,(QH p).1.getLastD [],0)
theorem QKn(p:List UInt8):QMW p=QDL (XJ p).1 (XJ p).2.1 (XJ p).2.2:=by
 unfold QMW XJ
 split
 ·rfl
 ·split<;>rfl
structure Plc where
 fo:Int
 nm:List UInt8
 k:Int
def QOI:Option Nat→Int
 |none=> -1
 |some k=>(k:Nat)
def QOJ(f:Int→List UInt8)(q:List UInt8×List UInt8×Int)(r:Int×Int):Plc×Int:=
 if q.2.2≠0 then(⟨0,[],0⟩,q.2.2)else if r.2≠0 then(⟨0,[],0⟩,r.2)else if(Qy f r.1).k≠2 then(⟨0,[],0⟩,6)else(⟨r.1,q.2.1,QOI (JQ f r.1 q.2.1)⟩,0)
def Zw(f:Int→List UInt8)(p:List UInt8):Plc×Int:=QOJ f (XJ p) (Qa f (XJ p).1)
def Y2(f:Int→List UInt8)(p:List UInt8):Int×Ino×Int:=
 if(Qa f p).2≠0 then(0,QFW,(Qa f p).2)else if(Qy f (Qa f p).1).k≠1 then(0,QFW,6)else((Qa f p).1,Qy f (Qa f p).1,0)
def frI(f:Int→List UInt8):Option Nat:=(List.range 16).find? fun n:Nat=>decide (¬JH f (n:Nat))
def frE(f:Int→List UInt8):Option Nat:=(List.range 24).find? fun k:Nat=>decide ((QK f (k:Nat)).u=false)
def QHG(f:Int→List UInt8)(b:Int):Bool:=(List.range 16).any fun n:Nat=>decide (JH f (n:Nat))&&decide (b∈QCe (Qy f (n:Nat)))
def frA(f:Int→List UInt8):List Int:=((List.range 24).filter fun i:Nat=> !(QHG f ((i+1:Nat):Int))).map fun i:Nat=>((i+1:Nat):Int)
def frB(f:Int→List UInt8)(n:Nat):List Int:=(frA f).take n
abbrev Pln:=Int×List Stp
def mkQ(f:Int→List UInt8)(a:Plc×Int)(kind:Int):Pln:=
 if a.2≠0 then(a.2,[])else if 0≤a.1.k then(5,[])else
 match frI f,frE f with
 |some n,some k=>(0,[.wr ⟨1+(n:Nat),Y1 ⟨kind,0,0,0,0,0⟩,2,(n:Nat),0⟩,.wr ⟨17+(k:Nat),Z7 ⟨true,a.1.fo,a.1.nm,(n:Nat)⟩,3,a.1.fo,0⟩])
 |_,_=>(2,[])
def mkP(f:Int→List UInt8)(p:List UInt8)(kind:Int):Pln:=mkQ f (Zw f p) kind
def nd(z:Int):Nat:=((z+31)/32).toNat
def QHH(x:Ino)(had:Nat)(fr:List Int)(i:Nat):Int:=if had≤i then fr.getD (i-had) (Xu x i)else Xu x i
def JI(x:Ino)(z:Int)(had:Nat)(fr:List Int):Ino:=⟨x.k,z,QHH x had fr 0,QHH x had fr 1,QHH x had fr 2,QHH x had fr 3⟩
def QHI(base:List UInt8)(i:Nat)(off:Int)(b:List UInt8):List UInt8:=
 (List.range 32).map fun j:Nat=>if off≤32*(i:Int)+(j:Int)∧32*(i:Int)+(j:Int)<off+(b.length:Int)then b.getD (32*(i:Int)+(j:Int)-off).toNat 0 else base.getD j 0
def QEZ(off:Int)(len:Nat)(i:Nat):Bool:=decide (off<32*(i:Int)+32∧32*(i:Int)<off+(len:Int)∧0<len)
def QMf(f:Int→List UInt8)(n:Int)(x y:Ino)(had:Nat)(off:Int)(b:List UInt8)(i:Nat):Stp:= .wr ⟨40+Xu y i,QHI (if i<had then f (40+Xu x i)else Q0) i off b,1,n,0⟩
def XG(f:Int→List UInt8)(n:Int)(x y:Ino)(had:Nat)(off:Int)(b:List UInt8)(k:Nat):List Stp:=((List.range k).filter (QEZ off b.length)).map (QMf f n x y had off b)
def QFn(f:Int→List UInt8)(n:Int)(x:Ino)(off:Int)(b:List UInt8):Pln:=
 if off<0∨x.z<off then(1,[])else if 128-off<(b.length:Int)then(2,[])else
 if(frB f (nd (max x.z (off+b.length))-nd x.z)).length≠nd (max x.z (off+b.length))-nd x.z then(2,[])else
 (0,XG f n x (JI x (max x.z (off+b.length)) (nd x.z) (frB f (nd (max x.z (off+b.length))-nd x.z))) (nd x.z) off b 4++
  if JI x (max x.z (off+b.length)) (nd x.z) (frB f (nd (max x.z (off+b.length))-nd x.z))=x then []else
  [.wr ⟨1+n,Y1 (JI x (max x.z (off+b.length)) (nd x.z) (frB f (nd (max x.z (off+b.length))-nd x.z))),2,n,0⟩])
def QKo(f:Int→List UInt8)(q:Int×Ino×Int)(off:Int)(b:List UInt8):Pln:=if q.2.2≠0 then(q.2.2,[])else QFn f q.1 q.2.1 off b
def QFo(f:Int→List UInt8)(p:List UInt8)(off:Int)(b:List UInt8):Pln:=QKo f (Y2 f p) off b
def QFp(f:Int→List UInt8)(p:List UInt8)(b:List UInt8):Pln:=QKo f (Y2 f p) (Y2 f p).2.1.z b
def trI(x:Ino)(tq:Int):Ino:=⟨x.k,tq,if 0<nd tq then x.b0 else 0,if 1<nd tq then x.b1 else 0,if 2<nd tq then x.b2 else 0,if 3<nd tq then x.b3 else 0⟩
def QOK(q:Int×Ino×Int)(tq:Int):Pln:=
 if q.2.2≠0 then(q.2.2,[])else if tq<0∨q.2.1.z<tq then(1,[])else if tq=q.2.1.z then(0,[])else(0,[.wr ⟨1+q.1,Y1 (trI q.2.1 tq),2,q.1,0⟩])
def QHJ(f:Int→List UInt8)(p:List UInt8)(tq:Int):Pln:=QOK (Y2 f p) tq
def QHK(p q:List UInt8):Bool:=decide ((QH p).2=0∧(QH q).2=0∧(QH q).1.length≤(QH p).1.length∧(QH p).1.take (QH q).1.length=(QH q).1)
def QMg(frm tq:List UInt8):Bool:=QHK tq frm||decide ((QH frm).1.length<(QH tq).1.length)
def QJU(f:Int→List UInt8)(a b:Plc)(x:Ent):Pln:=
 if b.k<0∧a.fo=b.fo then(0,[.wr ⟨17+a.k,Z7 x,3,b.fo,0⟩])else
 match (if b.k<0 then frE f else some b.k.toNat)with
 |none=>(2,[])
 |some k=>(0,[.wr ⟨17+(k:Nat),Z7 x,3,b.fo,0⟩,.bar,.wr ⟨17+a.k,Z7 Yk,3,a.fo,0⟩])
def QOL(f:Int→List UInt8)(frm tq:List UInt8)(a b:Plc×Int):Pln:=
 if(XJ frm).2.2≠0 then((XJ frm).2.2,[])else if(XJ tq).2.2≠0 then((XJ tq).2.2,[])else
 if a.2≠0 then(a.2,[])else if a.1.k<0 then(4,[])else if b.2≠0 then(b.2,[])else
 if frm=tq∨b.1.k=a.1.k then(0,[])else
 if(Qy f (QK f a.1.k).t).k=2∧QMg frm tq=true then(1,[])else
 if 0≤b.1.k∧((Qy f (QK f a.1.k).t).k=2∨(Qy f (QK f b.1.k).t).k=2)then(5,[])else
 QJU f a.1 b.1 ⟨(QK f a.1.k).u,b.1.fo,b.1.nm,(QK f a.1.k).t⟩
def QHL(f:Int→List UInt8)(frm tq:List UInt8):Pln:=QOL f frm tq (Zw f frm) (Zw f tq)
def QOM(f:Int→List UInt8)(a:Plc×Int):Pln:=
 if a.2≠0 then(a.2,[])else if a.1.k<0 then(4,[])else
 if(Qy f (QK f a.1.k).t).k=2∧nms f (QK f a.1.k).t≠[]then(7,[])else(0,[.wr ⟨17+a.1.k,Z7 Yk,3,a.1.fo,0⟩])
def QHM(f:Int→List UInt8)(p:List UInt8):Pln:=QOM f (Zw f p)
def runP(bad:List Int)(d:Dk)(x:Pln):Dk×Int:=if x.1≠0 then(d,x.1)else Ym bad d x.2
section
variable {f g:Int→List UInt8} (h:∀n:Int,0≤n→f n=g n)
include h
theorem QMh(p:Int)(s:List UInt8):JQ f p s=JQ g p s:=by
 unfold JQ
 refine congrArg (fun q=>List.find? q _) (funext fun k=>?_)
 have e:QB9 f p s k↔QB9 g p s k:=by
  unfold QB9 QHE
  simp only[QFi h,QCd h]
 exact decide_eq_decide.2 e
theorem QKp:∀(l:List (List UInt8)) (n:Int),lkp f l n=lkp g l n
 |[],n=>rfl
 |s::t,n=>by
  unfold lkp
  have e:J6 f n s=J6 g n s:=by unfold J6;rw[QMh h,QCd h];simp only[QFi h]
  rw[e,QKp t]
theorem QKq(p:List UInt8):Qa f p=Qa g p:=by unfold Qa;rw[QKp h]
end
theorem QIQ:RI QFW:= .inl ⟨.inl rfl,rfl,rfl,rfl,rfl,rfl⟩
theorem QCJ(f:Int→List UInt8)(p:List UInt8):RI (Y2 f p).2.1:=by
 unfold Y2
 split
 ·exact QIQ
 ·split
  ·exact QIQ
  ·exact QFm f _
section
variable {f g:Int→List UInt8} (h:∀n:Int,0≤n→f n=g n)
include h
end
def QDN(s:List UInt8)(a:Nat)(c:List UInt8):List UInt8:=s.take a++c++s.drop (a+c.length)
theorem QKr{s:List UInt8}{a:Nat}{c:List UInt8}(h:a+c.length≤s.length):(QDN s a c).length=s.length:=by
 unfold QDN
 simp only[zt,z2,yg];omega
theorem QAi(base:List UInt8)(i:Nat)(off:Int)(b:List UInt8):(QHI base i off b).length=32:=by unfold QHI;rw[ze,y5]
def atK(off:Int)(len:Nat)(k:Nat):Int:=min (max off (32*(k:Int))) (off+(len:Int))
theorem QKs{base:List UInt8}(hb:base.length=32){off:Int}{b:List UInt8}{k:Nat}(h0:0≤off)(hk:32*(k:Int)≤off∨off≤32*(k:Int))(hlt:atK off b.length k<off+b.length)(hu:off<32*(k:Int)+32):
  QDN base (atK off b.length k-32*(k:Int)).toNat ((b.drop (atK off b.length k-off).toNat).take (atK off b.length (k+1)-atK off b.length k).toNat)=QHI base k off b:=by
 have e1:atK off b.length k=max off (32*(k:Int)):=by unfold atK at hlt⊢;omega
 have e2:atK off b.length (k+1)=min (32*(k:Int)+32) (off+b.length):=by unfold atK;omega
 rw[e1,e2]at*
 have hl:((b.drop (max off (32*(k:Int))-off).toNat).take (min (32*(k:Int)+32) (off+b.length)-max off (32*(k:Int))).toNat).length=(min (32*(k:Int)+32) (off+b.length)-max off (32*(k:Int))).toNat:=by
  rw[z2,yg];omega
 unfold QDN
 refine ud ?_ fun j h1 h2=>?_
 ·rw [QAi,zt,zt,hl,z2,yg];omega
 ·rw [QAi]at h2
  have hg:∀(h:j<(QHI base k off b).length),(QHI base k off b)[j]=if off≤32*(k:Int)+(j:Int)∧32*(k:Int)+(j:Int)<off+(b.length:Int)then b.getD (32*(k:Int)+(j:Int)-off).toNat 0 else base.getD j 0:=fun h=>by
   simp only[QHI,zx,xy]
  rw[hg]
  by_cases c1:j<(max off (32*(k:Int))-32*(k:Int)).toNat
  ·rw [zw (by rw[zt,z2];omega),zw (by rw[z2];omega),if_neg (by omega),y8,z1,zm (by omega)];rfl
  ·by_cases c2:j<(max off (32*(k:Int))-32*(k:Int)).toNat+(min (32*(k:Int)+32) (off+b.length)-max off (32*(k:Int))).toNat
   ·rw [zw (by rw[zt,z2,hl];omega),z7 (by rw[z2];omega),if_pos (by omega),y8,y9,z1,zm (by omega),kv]
    congr 1
    rw[z2];omega
   ·rw [z7 (by rw[zt,z2,hl];omega),if_neg (by omega),y9,z1,zm (by omega),kv]
    congr 1
    rw[zt,hl,z2];omega
theorem QDk(f:Int→List UInt8)(n:Int)(x y:Ino)(had:Nat)(off:Int)(b:List UInt8)(k:Nat):XG f n x y had off b (k+1)=XG f n x y had off b k++if QEZ off b.length k=true then [QMf f n x y had off b k]else []:=by
 unfold XG
 rw[wn,vr,yv]
 congr 1
 by_cases h:QEZ off b.length k=true
 ·rw [if_pos h,ql h];rfl
 ·rw [if_neg h,qm h];rfl
theorem QJV{f:Int→List UInt8}{n:Int}{x y:Ino}{had:Nat}{off:Int}{b:List UInt8}{k:Nat}(h:∀i,i<k→QEZ off b.length i=false):XG f n x y had off b k=[]:=by
 unfold XG
 rw[List.filter_eq_nil_iff.2 fun i hi=>by rw[h i (xd.1 hi)];simp];rfl
theorem QFq{f:Int→List UInt8}{n:Int}{x y:Ino}{had:Nat}{off:Int}{b:List UInt8}{k:Nat}(hk:∀i,k≤i→QEZ off b.length i=false):∀j,XG f n x y had off b (k+j)=XG f n x y had off b k
 |0=>rfl
 |j+1=>by
  rw[←xo,QDk,QFq hk j,hk (k+j) (by omega)];simp
def InR(d:Dk):Prop:=∀w∈d.wait,0≤w.a∧w.a<d.safe.length
theorem QHN(n:Int):Xt n []=none:=rfl
theorem QFr(m:List (List UInt8))(ws:List Wr)(x:Wr):Qi m (ws++[x])=Xz (Qi m ws) x:=by unfold Qi;rw[ua];rfl
theorem QHO(d:Dk)(n:Int)(h0:0≤n):rdS (some d) n=imS (Qi d.safe d.wait) n:=by
 obtain⟨nx,safe,wait,log,ep⟩:=d
 have key:∀l:List Wr,rdS (some ⟨nx,safe,l,log,ep⟩) n=imS (Qi safe l) n:=by
  intro l
  have hrec:∀k,∀l:List Wr,l.length=k→rdS (some ⟨nx,safe,l,log,ep⟩) n=imS (Qi safe l) n:=by
   intro k
   induction k with
   |zero=>
    intro l hl
    have:l=[]:=yw.1 hl
    subst this
    unfold rdS imS
    dsimp only
    rw[QHN]
    show(if _ then safe.getD n.toNat Q0 else Q0)=safe.getD n.toNat Q0
    split
    ·rfl
    ·rename_i hc
     rw[z1,wx (by omega)];rfl
   |succ k ih=>
    intro l hl
    have hne:l≠[]:=fun h=>by rw[h]at hl;simp at hl
    obtain⟨t,x,rfl⟩:∃t x,l=t++[x]:=⟨l.dropLast,l.getLast hne,(List.dropLast_concat_getLast hne).symm⟩
    have iht:=ih t (by simpa using hl)
    rw[QFr]
    have h2:=X4 safe t
    unfold rdS at iht⊢
    dsimp only at iht⊢
    rw[QFh]
    unfold Xz imS
    by_cases hx:x.a=n
    ·subst hx
     by_cases hr:0≤x.a∧x.a<safe.length
     ·rw [if_pos hr,if_pos rfl,if_pos (show 0≤x.a∧x.a<((Qi safe t).length:Int) by rw[h2];exact hr)]
      show x.s=((Qi safe t).set x.a.toNat x.s).getD x.a.toNat Q0
      rw[z1,List.getElem?_set_self (by rw[h2];omega)];rfl
     ·rw [if_neg hr,if_neg (show¬(0≤x.a∧x.a<((Qi safe t).length:Int)) by rw[h2];exact hr),z1,wx (by rw[h2];omega)];rfl
    ·rw [if_neg hx]
     unfold imS at iht
     rw[iht]
     split
     ·rw [z1,z1,List.getElem?_set_ne (by omega)]
     ·rfl
  exact hrec l.length l rfl
 exact key wait
def QZ(b:Bool)(bad:List Int)(d:Dk):List (Nat×Ob):=Z6 b bad d++[(5,.cells 1 [.ptr 0 0])]
def QFs:Stp→Prop
 | .wr w=>w.s.length=32∧0≤w.a∧w.a<65
 | .bar=>True
structure Evt where
 k:Int
 w:Wr
 t:List (Int×Int)
def Qg(t:Int×Int):List D:=[.it .i64 t.1,.it .i64 t.2]
def QPy(e:Evt):List D:=[.it .i64 e.k]++Qx e.w++[.fs 2 (e.t.map Qg)]
def QMi(l:List (List D)):Prop:=∃es:List Evt,l=es.map QPy∧∀e∈es,e.w.s.length=32∧e.t.length≤1000
theorem QMi.snoc{l:List (List D)}(h:QMi l)(e:Evt)(h1:e.w.s.length=32)(h2:e.t.length≤1000):QMi (l++[QPy e]):=by
 obtain⟨es,rfl,h3⟩:=h
 refine⟨es++[e],by rw[yv];rfl,fun x hx=>?_⟩
 rcases ye.1 hx with hx|hx
 ·exact h3 x hx
 ·rw [xm.1 hx];exact⟨h1,h2⟩
structure Fd(bad:List Int)(d:Dk)(N:Nat):Prop where
 s:∀s∈d.safe,s.length=32
 w:∀w∈d.wait,w.s.length=32
 r:InR d
 b:DB d N
 n:d.safe.length=65
 bl:bad.length≤1000000
 ep: -(N:Int)≤d.ep∧d.ep≤N
 lg:QMi d.log
 hN:N≤90000
theorem Fd.ok{bad:List Int}{d:Dk}{N:Nat}(h:Fd bad d N):XI (some d):=⟨h.s,h.w,by rw[h.n];exact zr _,by have:=h.b.w;have:=h.hN;omega⟩
theorem DB.mono{d:Dk}{N M:Nat}(h:DB d N)(hm:N≤M):DB d M:=⟨⟨h.nx.1,by have:=h.nx;omega⟩,xj h.w hm,xj h.l hm,h.s,h.s0⟩
theorem Fd.mono{bad:List Int}{d:Dk}{N M:Nat}(h:Fd bad d N)(hm:N≤M)(hM:M≤90000):Fd bad d M:=⟨h.s,h.w,h.r,h.b.mono hm,h.n,h.bl,by have:=h.ep;omega,h.lg,hM⟩
theorem Fd.tk{bad:List Int}{d:Dk}{N:Nat}(h:Fd bad d N)(hM:N+1≤90000):Fd bad (tk d) (N+1):=
 ⟨h.s,h.w,h.r,⟨⟨by have:=h.b.nx;show 0≤d.nx+1;omega,by have:=h.b.nx;show d.nx+1≤_;omega⟩,jz h.b.w,jz h.b.l,h.b.s,h.b.s0⟩,h.n,h.bl,by have:=h.ep;show-((N+1:Nat):Int)≤d.ep∧d.ep≤((N+1:Nat):Int);omega,h.lg,hM⟩
theorem Fd.bar{bad:List Int}{d:Dk}{N:Nat}(h:Fd bad d N)(hM:N+1≤90000):Fd bad (QJT d) (N+1):=
 ⟨h.s,h.w,h.r,⟨⟨by have:=h.b.nx;show 0≤d.nx+1;omega,by have:=h.b.nx;show d.nx+1≤_;omega⟩,jz h.b.w,by show(d.log++[_]).length≤_;rw[zt];exact qd h.b.l,h.b.s,h.b.s0⟩,h.n,h.bl,by have:=h.ep;show-((N+1:Nat):Int)≤d.ep+1∧d.ep+1≤((N+1:Nat):Int);omega,h.lg.snoc ⟨3,w0,[]⟩ rfl (yf _),hM⟩
theorem Fd.wr{bad:List Int}{d:Dk}{N:Nat}(h:Fd bad d N)(hM:N+1≤90000)(w:Wr)(hw:QFs (.wr w)):Fd bad (wrD d w) (N+1):=
 ⟨h.s,(fun x hx=>by
  rcases ye.1 hx with hx|hx
  ·exact h.w x hx
  ·rw [xm.1 hx];exact hw.1),(fun x hx=>by
  rcases ye.1 hx with hx|hx
  ·exact h.r x hx
  ·rw [xm.1 hx]
   have h2:=hw.2
   have:=h.n
   show 0≤w.a∧w.a<(d.safe.length:Int);omega),
  ⟨⟨by have:=h.b.nx;show 0≤d.nx+1;omega,by have:=h.b.nx;show d.nx+1≤_;omega⟩,by show(d.wait++[_]).length≤_;rw[zt];exact qd h.b.w,by show(d.log++[_]).length≤_;rw[zt];exact qd h.b.l,h.b.s,h.b.s0⟩,h.n,h.bl,by have:=h.ep;show-((N+1:Nat):Int)≤d.ep∧d.ep≤((N+1:Nat):Int);omega,h.lg.snoc ⟨1,{w with e:=d.ep},[]⟩ hw.1 (yf _),hM⟩
theorem Fd.run{bad:List Int}:∀(l:List Stp) {d:Dk} {N:Nat},Fd bad d N→N+l.length≤90000→(∀s∈l,QFs s)→Fd bad (Ym bad d l).1 (N+l.length)
 |[],d,N,h,hM,_=>h
 | .wr w::t,d,N,h,hM,hl=>by
  have hM':N+(t.length+1)≤90000:=hM
  show Fd bad (Ym bad d (.wr w::t)).1 (N+(t.length+1))
  unfold Ym
  split
  ·exact (h.tk (by omega)).mono (by omega) hM'
  ·have:=Fd.run t (h.wr (by omega) w (hl _ zo)) (by omega) fun s hs=>hl s (zk _ hs)
   exact this.mono (by omega) hM'
 | .bar::t,d,N,h,hM,hl=>by
  have hM':N+(t.length+1)≤90000:=hM
  show Fd bad (Ym bad d (.bar::t)).1 (N+(t.length+1))
  unfold Ym
  split
  ·exact (h.tk (by omega)).mono (by omega) hM'
  ·have:=Fd.run t (h.bar (by omega)) (by omega) fun s hs=>hl s (zk _ hs)
   exact this.mono (by omega) hM'
def doA(b:Bool)(bad:List Int)(T:Nat→Nat)(l:List Stp):Nat×Dk→S|(k,D)=>⟨[(0,.ptr 5 0),(1,.d (.fs 37 (l.map YY))),(5,.d (.it .i64 0)),(8,.d (.fs 37 (l.map YY))),(9,.d (.it .i64 (l.length:Nat))),(10,.d (.it .i64 (k:Nat)))],QZ b bad D++Qn 6 [0,5] T,9⟩
theorem QCf{b:Bool}{bad:List Int}{d:Dk}{N:Nat}(h:Fd bad d N)(l:List Stp)(hw:∀s∈l,QFs s)(hl:l.length≤100):
  FnH Tryz.prog 130 [.ptr 5 0,.d (.fs 37 (l.map YY))] (QZ b bad d) 6 [0,5] (.d (.it .i64 (Ym bad d l).2)) (QZ b bad (Ym bad d l).1) 6:=by
 have hwl:(l.map YY).length=l.length:=ze ..
 have hN:=h.hN
 obtain⟨R,hR⟩:∃R,Ym bad d l=R:=⟨_,rfl⟩
 rw[hR]
 refine QR QQx fun T=>?_
 (repeat' ((conv=>whnf);first|refine QB ?_|intro x hx hu|intro h|refine Spp.mk ?_ ?_))
 conv=>whnf
 refine Qs QA (fun x:Nat×Dk=>x.1≤l.length∧Ym bad x.2 (l.drop x.1)=R∧DB x.2 (N+x.1)∧x.2.safe.length=65∧ -((N+x.1:Nat):Int)≤x.2.ep∧x.2.ep≤(N+x.1:Nat)) (doA b bad T l) (fun x=>l.length-x.1) (0,d) ⟨yf _,hR,h.b,h.n,h.ep⟩ (Wk.en ⟨ai rfl (ai rfl (ai rfl (ai rfl (ai (QW (by rw[hwl])) (ai rfl trivial))))),(ai rfl (ai rfl (ai rfl (ai rfl (ai rfl (ai rfl (ai rfl (ai rfl (ai rfl trivial))))))))),rfl⟩) ?_
 intro⟨k,D⟩ hk0
 have hk:=hk0.1
 have hr:=hk0.2.1
 have hb:=hk0.2.2.1
 have hn:=hk0.2.2.2.1
 have hep:=hk0.2.2.2.2
 dsimp only at hk hr hb hn hep
 by_cases hkl:k<l.length
 ·obtain ⟨s,hx⟩:=ZD hkl
  have hws:=hw s (yi hx)
  have hdr:l.drop k=s::l.drop (k+1):=by
   obtain⟨hk',e⟩:=z8.1 hx
   rw[qb hk',e]
  rw[hdr]at hr
  have hbk:DB D 1000000:=⟨by have:=hb.nx;omega,by have:=hb.w;omega,by have:=hb.l;omega,hb.s,hb.s0⟩
  cases s with
  |wr w=>
   unfold Ym at hr
   have hin:0≤w.a∧w.a<D.safe.length:=⟨hws.2.1,by rw[hn];exact hws.2.2⟩
   have hb1:DB (wrD D w) (N+(k+1)):=⟨⟨by have:=hb.nx;show 0≤D.nx+1;omega,by have:=hb.nx;show D.nx+1≤_;omega⟩,by have:=hb.w;show(D.wait++[_]).length≤_;rw[zt,xb];omega,by have:=hb.l;show(D.log++[_]).length≤_;rw[zt,xb];omega,hb.s,hb.s0⟩
   obtain⟨wa,wS,wk,wi,we⟩:=w
   have hW:=QOE b bad D wa wS hws.1 wk wi hbk hin
   by_cases hbad:D.nx∈bad
   ·rw [if_pos hbad]at hr
    rw[if_pos hbad,if_pos hbad]at hW
    obtain⟨g,rfl⟩:=Xy hws.1
    (repeat' ((conv=>whnf);first|with_reducible refine ZY hx ?_|with_reducible refine AtA.mk' ?_|refine CallE.inl ?_|refine CallI.h hW [0,1,2,3,4] ?_|refine QB ?_|intro x hx hu|intro h|refine Spp.mk ?_ ?_))
    all_goals first|(exfalso;omega)|skip
    rw[←hr]
    exact QJ
   ·rw [if_neg hbad]at hr
    rw[if_neg hbad,if_neg hbad]at hW
    obtain⟨g,rfl⟩:=Xy hws.1
    (repeat' ((conv=>whnf);first|with_reducible refine ZY hx ?_|with_reducible refine AtA.mk' ?_|refine CallE.inl ?_|refine CallI.h hW [0,1,2,3,4] ?_|refine QB ?_|intro x hx hu|intro h|refine Spp.mk ?_ ?_))
    all_goals first|(exfalso;omega)|skip
    exact⟨(k+1,wrD D ⟨wa,ZN g,wk,wi,we⟩),⟨hkl,hr,hb1,hn,by show-((N+(k+1):Nat):Int)≤D.ep∧D.ep≤((N+(k+1):Nat):Int);omega⟩,by first|omega|(dsimp only;omega),Wk.en ⟨ai rfl (ai rfl (ai rfl (ai rfl (ai rfl (ai (QW (by omega)) trivial))))),(ai rfl (ai rfl (ai rfl (ai rfl (ai rfl (ai rfl (ai rfl (ai rfl (ai rfl trivial))))))))),rfl⟩⟩
  |bar=>
   unfold Ym at hr
   have hb1:DB (QJT D) (N+(k+1)):=⟨⟨by have:=hb.nx;show 0≤D.nx+1;omega,by have:=hb.nx;show D.nx+1≤_;omega⟩,by have:=hb.w;show D.wait.length≤_;omega,by have:=hb.l;show(D.log++[_]).length≤_;rw[zt,xb];omega,hb.s,hb.s0⟩
   have hW:=QIO b bad D hbk (by omega)
   by_cases hbad:D.nx∈bad
   ·rw [if_pos hbad]at hr
    rw[if_pos hbad,if_pos hbad]at hW
    (repeat' ((conv=>whnf);first|with_reducible refine ZY hx ?_|with_reducible refine AtA.mk' ?_|refine CallE.inl ?_|refine CallI.h hW [0,1,2,3,4] ?_|refine QB ?_|intro x hx hu|intro h|refine Spp.mk ?_ ?_))
    all_goals first|(exfalso;omega)|skip
    rw[←hr]
    exact QJ
   ·rw [if_neg hbad]at hr
    rw[if_neg hbad,if_neg hbad]at hW
    (repeat' ((conv=>whnf);first|with_reducible refine ZY hx ?_|with_reducible refine AtA.mk' ?_|refine CallE.inl ?_|refine CallI.h hW [0,1,2,3,4] ?_|refine QB ?_|intro x hx hu|intro h|refine Spp.mk ?_ ?_))
    all_goals first|(exfalso;omega)|skip
    exact⟨(k+1,QJT D),⟨hkl,hr,hb1,hn,by show-((N+(k+1):Nat):Int)≤D.ep+1∧D.ep+1≤((N+(k+1):Nat):Int);omega⟩,by first|omega|(dsimp only;omega),Wk.en ⟨ai rfl (ai rfl (ai rfl (ai rfl (ai rfl (ai (QW (by omega)) trivial))))),(ai rfl (ai rfl (ai rfl (ai rfl (ai rfl (ai rfl (ai rfl (ai rfl (ai rfl trivial))))))))),rfl⟩⟩
 ·have hnil:l.drop k=[]:=ul (by omega)
  rw[hnil]at hr
  replace hr:(D,(0:Int))=R:=hr
  (repeat' ((conv=>whnf);first|refine QB ?_|intro x hx hu|intro h|refine Spp.mk ?_ ?_))
  rw[←hr]
  exact QJ
def tgB(tags:List (Int×Int))(w:Wr):Bool:=decide ((w.k,w.i)∈tags)
def QKt(tags:List (Int×Int))(r:Option Int)(w:Wr):Option Int:=
 if tgB tags w=true then(match r with|none=>some w.e|some x=>some (max x w.e))else r
def Xg(tags:List (Int×Int))(l:List Wr):Option Int:=l.foldl (QKt tags) none
def QAG(tags:List (Int×Int))(top:Option Int)(w:Wr):Bool:=tgB tags w||match top with|none=>false|some x=>decide (w.e<x)
def XB(m:Wr→Bool):List Wr→List Wr
 |[]=>[]
 |w::t=>if m w=true∨t.any (fun v=>m v&&decide (v.a=w.a))=true then XB m t else w::XB m t
def evS(tags:List (Int×Int)):List D:=[.it .i64 2]++Qx w0++[.fs 2 (tags.map Qg)]
def QBJ(tags:List (Int×Int))(d:Dk):Dk:=⟨d.nx+1,Qi d.safe (d.wait.filter (QAG tags (Xg tags d.wait))),XB (QAG tags (Xg tags d.wait)) d.wait,d.log++[evS tags],d.ep⟩
theorem QDl(m:List (List UInt8))(v w:Wr)(h:v.a≠w.a):Xz (Xz m v) w=Xz (Xz m w) v:=by
 unfold Xz
 by_cases hv:0≤v.a∧v.a<m.length
 ·by_cases hw:0≤w.a∧w.a<m.length
  ·rw [if_pos hv,if_pos hw,if_pos (by rw[wo];exact hw),if_pos (by rw[wo];exact hv),List.set_comm _ _ (by omega)]
  ·rw [if_pos hv,if_neg hw,if_neg (by rw[wo];exact hw),if_pos hv]
 ·by_cases hw:0≤w.a∧w.a<m.length
  ·rw [if_neg hv,if_pos hw,if_neg (by rw[wo];exact hv)]
  ·rw [if_neg hv,if_neg hw,if_neg hv]
theorem QJW(m:List (List UInt8))(v w:Wr)(h:v.a=w.a):Xz (Xz m v) w=Xz m w:=by
 unfold Xz
 rw[h]
 by_cases hw:0≤w.a∧w.a<m.length
 ·rw [if_pos hw,if_pos (by rw[wo];exact hw),if_pos hw,List.set_set]
 ·rw [if_neg hw,if_neg hw]
theorem ZQ(m:List (List UInt8))(w:Wr)(t:List Wr):Qi m (w::t)=Qi (Xz m w) t:=rfl
theorem QCg:∀(t:List Wr) (m:List (List UInt8)) (w:Wr),(∀v∈t,v.a≠w.a)→Xz (Qi m t) w=Qi (Xz m w) t
 |[],m,w,_=>rfl
 |v::t,m,w,h=>by
  rw[ZQ,ZQ,QCg t _ w fun x hx=>h x (zk _ hx),QDl m v w (h v zo)]
theorem QCh:∀(t:List Wr) (m:List (List UInt8)) (w:Wr),(∃v∈t,v.a=w.a)→Qi (Xz m w) t=Qi m t
 |[],m,w,h=>by obtain⟨v,hv,_⟩:=h;cases hv
 |v::t,m,w,h=>by
  rw[ZQ,ZQ]
  by_cases hv:v.a=w.a
  ·rw [QJW m w v hv.symm]
  ·rw [QDl m w v (fun e=>hv e.symm)]
   refine QCh t _ w ?_
   obtain⟨x,hx,hxa⟩:=h
   rcases zi.1 hx with rfl|hx
   ·exact absurd hxa hv
   ·exact ⟨x,hx,hxa⟩
theorem QAj(m:Wr→Bool):∀(t:List Wr) (s:List (List UInt8)),Qi (Qi s (t.filter m)) (XB m t)=Qi s t
 |[],s=>rfl
 |w::t,s=>by
  by_cases hm:m w=true
  ·rw [ql hm]
   unfold XB
   rw[if_pos (.inl hm),ZQ,ZQ]
   exact QAj m t _
  ·rw [qm hm]
   unfold XB
   by_cases ha:t.any (fun v=>m v&&decide (v.a=w.a))=true
   ·rw [if_pos (.inr ha),QAj m t s,ZQ]
    refine(QCh t s w ?_).symm
    obtain⟨v,hv,h2⟩:=ky.1 ha
    rw[zf]at h2
    exact⟨v,hv,of_decide_eq_true h2.2⟩
   ·rw [if_neg (by rintro(h|h);exact hm h;exact ha h),ZQ,QCg,QAj m t,ZQ]
    intro v hv hva
    obtain⟨h1,h2⟩:=uj.1 hv
    exact ha (ky.2 ⟨v,h1,by rw[h2,w9];exact decide_eq_true hva⟩)
theorem QON(tags:List (Int×Int))(d:Dk)(n:Int)(h0:0≤n):rdS (some (QBJ tags d)) n=rdS (some d) n:=by
 rw[QHO _ _ h0,QHO _ _ h0]
 show imS (Qi (Qi d.safe _) (XB _ d.wait)) n=_
 rw[QAj]
theorem Yn(m:Wr→Bool):∀(t:List Wr),∀w∈XB m t,w∈t∧m w=false
 |[],w,h=>by cases h
 |v::t,w,h=>by
  unfold XB at h
  split at h
  ·obtain ⟨h1,h2⟩:=Yn m t w h
   exact⟨zk _ h1,h2⟩
  ·rename_i hc
   rcases zi.1 h with rfl|h
   ·refine ⟨zo,?_⟩
    cases hm:m w with
    |false=>rfl
    |true=>exact absurd (.inl hm) hc
   ·obtain ⟨h1,h2⟩:=Yn m t w h
    exact⟨zk _ h1,h2⟩
theorem QKu{tags:List (Int×Int)}{d:Dk}{w:Wr}(h:w∈(QBJ tags d).wait):(w.k,w.i)∉tags:=by
 have:=(Yn _ _ w h).2
 unfold QAG at this
 rw[Bool.or_eq_false_iff]at this
 exact of_decide_eq_false this.1
theorem QMj(a b:Int×Int):XA (Qg a) (Qg b)=decide (a=b):=by
 obtain⟨a,c⟩:=a
 obtain⟨b,d⟩:=b
 show((a==b)&&((c==d)&&true))=_
 rw[x7,xw,zf,beq_iff_eq,beq_iff_eq,decide_eq_true_eq,y4]
def mpT(l:List (Int×Int)):List (List D×D):=l.foldl (fun m t=>Jf m (Qg t) (.it .i64 1)) []
theorem QFt(l:List (Int×Int))(t:Int×Int):mpT (l++[t])=Jf (mpT l) (Qg t) (.it .i64 1):=by unfold mpT;rw[ua];rfl
theorem QIR:∀(m:List (List D×D)) (x t:Int×Int) (v:D),Q9 m (Qg x)=none→Q9 (m++[(Qg x,v)]) (Qg t)=if x=t then some v else Q9 m (Qg t)
 |[],x,t,v,_=>by
  show(bif XA (Qg x) (Qg t)then some v else none)=_
  rw[QMj]
  by_cases h:x=t
  ·rw [if_pos h,decide_eq_true h];rfl
  ·rw [if_neg h,decide_eq_false h];rfl
 |(k,u)::m,x,t,v,h=>by
  simp only[Q9]at h
  cases hk:XA k (Qg x)with
  |true=>rw[hk,cond_true]at h;cases h
  |false=>
   rw[hk,cond_false]at h
   have ih:=QIR m x t v h
   show(bif XA k (Qg t)then some u else Q9 (m++_) (Qg t))=if x=t then some v else(bif XA k (Qg t)then some u else Q9 m (Qg t))
   by_cases e:x=t
   ·subst e
    rw[hk,cond_false,ih];rfl
   ·rw [ih,if_neg e,if_neg e]
theorem QIS:∀(m:List (List D×D)) (_:∀p∈m,∃t,p.1=Qg t) (x t:Int×Int) (v w:D),Q9 m (Qg x)=some w→Q9 (QIE m (Je m (Qg x)) v) (Qg t)=if x=t then some v else Q9 m (Qg t)
 |[],_,x,t,v,w,h=>by cases h
 |(k,u)::m,hm,x,t,v,w,h=>by
  obtain⟨y,hy⟩:=hm _ zo
  have hy:k=Qg y:=hy
  subst hy
  simp only[Q9]at h
  simp only[Je]
  rw[QMj]at h⊢
  by_cases e:y=x
  ·subst e
   rw[decide_eq_true rfl,cond_true]
   show(bif XA (Qg y) (Qg t)then some v else Q9 m (Qg t))=if y=t then some v else(bif XA (Qg y) (Qg t)then some u else Q9 m (Qg t))
   rw[QMj]
   by_cases ht:y=t
   ·rw [if_pos ht,decide_eq_true ht];rfl
   ·rw [if_neg ht,decide_eq_false ht];rfl
  ·rw [decide_eq_false e,cond_false]at h⊢
   have ih:=QIS m (fun p hp=>hm p (zk _ hp)) x t v w h
   show(bif XA (Qg y) (Qg t)then some u else Q9 (QIE m _ v) (Qg t))=if x=t then some v else(bif XA (Qg y) (Qg t)then some u else Q9 m (Qg t))
   rw[QMj,ih]
   by_cases ht:y=t
   ·rw [decide_eq_true ht,cond_true,cond_true,if_neg (fun h=>e (ht.trans h.symm))]
   ·rw [decide_eq_false ht];rfl
theorem QDm:∀(m:List (List D×D)) (i:Nat) (v:D),(∀p∈m,∃t,p.1=Qg t)→∀p∈QIE m i v,∃t,p.1=Qg t
 |[],_,_,_,p,hp=>by cases hp
 |(k,u)::m,0,v,hm,p,hp=>by
  rcases zi.1 hp with rfl|hp
  ·exact hm (k,u) zo
  ·exact hm p (zk _ hp)
 |q::m,i+1,v,hm,p,hp=>by
  rcases zi.1 hp with rfl|hp
  ·exact hm _ zo
  ·exact QDm m i v (fun p hp=>hm p (zk _ hp)) p hp
theorem QMk(l:List (Int×Int)):(∀p∈mpT l,∃t,p.1=Qg t)∧∀t,Q9 (mpT l) (Qg t)=if t∈l then some (.it .i64 1)else none:=by
 have key:∀k,k≤l.length→(∀p∈mpT (l.take k),∃t,p.1=Qg t)∧∀t,Q9 (mpT (l.take k)) (Qg t)=if t∈l.take k then some (.it .i64 1)else none:=by
  intro k
  induction k with
  |zero=>intro _;exact⟨fun p hp=>(by cases hp),fun t=>rfl⟩
  |succ k ih=>
   intro hk
   obtain⟨x,hx⟩:=ZD (show k<l.length by omega)
   obtain⟨h1,h2⟩:=ih (by omega)
   rw[Q3 hx,QFt]
   have hx2:=h2 x
   have hmem:∀t,t∈l.take k++[x]↔t∈l.take k∨t=x:=fun t=>by rw[ye,xm]
   unfold Jf
   by_cases hi:x∈l.take k
   ·rw [if_pos hi]at hx2
    rw[hx2]
    refine⟨QDm _ _ _ h1,fun t=>?_⟩
    dsimp only
    rw[QIS _ h1 x t _ _ hx2,h2]
    by_cases e:x=t
    ·rw [if_pos e,if_pos ((hmem t).2 (.inr e.symm))]
    ·rw [if_neg e]
     by_cases ht:t∈l.take k
     ·rw [if_pos ht,if_pos ((hmem t).2 (.inl ht))]
     ·rw [if_neg ht,if_neg (fun h=>((hmem t).1 h).elim ht (fun h=>e h.symm))]
   ·rw [if_neg hi]at hx2
    rw[hx2]
    refine⟨fun p hp=>?_,fun t=>?_⟩
    ·rcases ye.1 hp with hp|hp
     ·exact h1 p hp
     ·rw [xm.1 hp];exact⟨x,rfl⟩
    dsimp only
    rw[QIR _ x t _ hx2,h2]
    by_cases e:x=t
    ·rw [if_pos e,if_pos ((hmem t).2 (.inr e.symm))]
    ·rw [if_neg e]
     by_cases ht:t∈l.take k
     ·rw [if_pos ht,if_pos ((hmem t).2 (.inl ht))]
     ·rw [if_neg ht,if_neg (fun h=>((hmem t).1 h).elim ht (fun h=>e h.symm))]
 have:=key l.length (zr _)
 rwa [wz]at this
theorem QIT(l:List (Int×Int))(w:Wr):(match Q9 (mpT l) [.it .i64 w.k,.it .i64 w.i]with|some v=>v|none=> .it .i64 0)=D.it .i64 (if tgB l w=true then 1 else 0):=by
 have h:=(QMk l).2 (w.k,w.i)
 have h:Q9 (mpT l) [.it .i64 w.k,.it .i64 w.i]=_:=h
 rw[h]
 by_cases hm:(w.k,w.i)∈l
 ·rw [if_pos hm,if_pos (show tgB l w=true from decide_eq_true hm)]
 ·rw [if_neg hm,if_neg (show¬tgB l w=true from fun h=>hm (of_decide_eq_true h))]
def Yo(m:Wr→Bool):List Wr→Nat→List (List D×D)→List (List D×D)
 |[],_,M=>M
 |w::t,i,M=>Yo m t (i+1) (if m w=true then JK M [.it .i64 w.a] (.it .i64 (i:Nat))else M)
theorem QBK(m:Wr→Bool)(w:Wr):∀(t:List Wr) (i:Nat) (M:List (List D×D)),Yo m (t++[w]) i M=if m w=true then JK (Yo m t i M) [.it .i64 w.a] (.it .i64 ((i+t.length:Nat):Int))else Yo m t i M
 |[],i,M=>rfl
 |x::t,i,M=>by
  show Yo m (t++[w]) (i+1) _=_
  rw[QBK m w t,yk,show i+1+t.length=i+(t.length+1) by omega]
  rfl
theorem QFu:∀(m:List (List D×D)) (_:∀p∈m,∃a,p.1=[D.it .i64 a]) (x n:Int) (v:D),Q9 (JK m [.it .i64 x] v) [.it .i64 n]=if x=n then some v else Q9 m [.it .i64 n]
 |[],_,x,n,v=>by
  show(bif XA [.it .i64 x] [.it .i64 n]then some v else none)=_
  rw[QFj]
  by_cases h:x=n
  ·rw [if_pos h,decide_eq_true h];rfl
  ·rw [if_neg h,decide_eq_false h];rfl
 |(k,u)::t,hm,x,n,v=>by
  obtain⟨a,hka⟩:=hm _ zo
  have hka:k=[D.it .i64 a]:=hka
  subst hka
  have ih:=QFu t (fun p hp=>hm p (zk _ hp)) x n v
  simp only[JK,Q9,QFj]
  by_cases ha:a=x
  ·subst ha
   rw[decide_eq_true rfl,cond_true]
   simp only[Q9,QFj]
   by_cases h:a=n
   ·rw [if_pos h,decide_eq_true h];rfl
   ·rw [if_neg h,decide_eq_false h];rfl
  ·rw [decide_eq_false ha,cond_false]
   simp only[Q9,QFj]
   by_cases han:a=n
   ·rw [decide_eq_true han,cond_true,cond_true,if_neg (fun e=>ha (by omega))]
   ·rw [decide_eq_false han,cond_false,cond_false];exact ih
def ovB(m:Wr→Bool)(t:List Wr)(w:Wr):Bool:=t.any fun v=>m v&&decide (v.a=w.a)
theorem QKv(m:Wr→Bool)(l:List Wr):(∀p∈Yo m l 0 [],∃a,p.1=[D.it .i64 a])∧∀a:Int,(Q9 (Yo m l 0 []) [.it .i64 a]=none∧∀j:Nat,∀w,l[j]? =some w→m w=true→w.a≠a)∨(∃k:Nat,∃v,Q9 (Yo m l 0 []) [.it .i64 a]=some (.it .i64 (k:Nat))∧l[k]? =some v∧m v=true∧v.a=a∧∀j:Nat,k<j→∀w,l[j]? =some w→m w=true→w.a≠a):=by
 have key:∀k,k≤l.length→(∀p∈Yo m (l.take k) 0 [],∃a,p.1=[D.it .i64 a])∧∀a:Int,(Q9 (Yo m (l.take k) 0 []) [.it .i64 a]=none∧∀j:Nat,j<k→∀w,l[j]? =some w→m w=true→w.a≠a)∨(∃i:Nat,∃v,i<k∧Q9 (Yo m (l.take k) 0 []) [.it .i64 a]=some (.it .i64 (i:Nat))∧l[i]? =some v∧m v=true∧v.a=a∧∀j:Nat,i<j→j<k→∀w,l[j]? =some w→m w=true→w.a≠a):=by
  intro k
  induction k with
  |zero=>intro _;exact⟨fun p hp=>(by cases hp),fun a=> .inl ⟨rfl,fun j hj=>by omega⟩⟩
  |succ k ih=>
   intro hk
   obtain⟨x,hx⟩:=ZD (show k<l.length by omega)
   obtain⟨h1,h2⟩:=ih (by omega)
   rw[Q3 hx,QBK,z2,vv (show k≤l.length by omega),yx]
   by_cases hm:m x=true
   ·rw [if_pos hm]
    refine⟨QBI _ h1 _ _,fun a=>?_⟩
    rw[QFu _ h1]
    by_cases e:x.a=a
    ·rw [if_pos e]
     exact .inr ⟨k,x,by omega,rfl,hx,hm,e,fun j h3 h4=>by omega⟩
    ·rw [if_neg e]
     rcases h2 a with⟨g1,g2⟩|⟨i,v,g0,g1,g2,g3,g4,g5⟩
     ·refine .inl ⟨g1,fun j hj w hw hmw=>?_⟩
      by_cases hjk:j=k
      ·subst hjk
       rw[hx]at hw
       obtain rfl:=za hw
       exact e
      ·exact g2 j (by omega) w hw hmw
     ·refine .inr ⟨i,v,by omega,g1,g2,g3,g4,fun j h3 h4 w hw hmw=>?_⟩
      by_cases hjk:j=k
      ·subst hjk
       rw[hx]at hw
       obtain rfl:=za hw
       exact e
      ·exact g5 j h3 (by omega) w hw hmw
   ·rw [if_neg hm]
    refine⟨h1,fun a=>?_⟩
    rcases h2 a with⟨g1,g2⟩|⟨i,v,g0,g1,g2,g3,g4,g5⟩
    ·refine .inl ⟨g1,fun j hj w hw hmw=>?_⟩
     by_cases hjk:j=k
     ·subst hjk
      rw[hx]at hw
      obtain rfl:=za hw
      exact absurd hmw hm
     ·exact g2 j (by omega) w hw hmw
    ·refine .inr ⟨i,v,by omega,g1,g2,g3,g4,fun j h3 h4 w hw hmw=>?_⟩
     by_cases hjk:j=k
     ·subst hjk
      rw[hx]at hw
      obtain rfl:=za hw
      exact absurd hmw hm
     ·exact g5 j h3 (by omega) w hw hmw
 have:=key l.length (zr _)
 rw[wz]at this
 refine⟨this.1,fun a=>?_⟩
 rcases this.2 a with⟨g1,g2⟩|⟨i,v,g0,g1,g2,g3,g4,g5⟩
 ·exact .inl ⟨g1,fun j w hw=>g2 j (z8.1 hw).1 w hw⟩
 ·exact .inr ⟨i,v,g1,g2,g3,g4,fun j hj w hw=>g5 j hj (z8.1 hw).1 w hw⟩
theorem QOO(m:Wr→Bool)(l:List Wr)(i:Nat)(w:Wr)(hw:l[i]? =some w):∃(k:Int) (b:Bool),(match Q9 (Yo m l 0 []) [.it .i64 w.a]with|some v=>(v,true)|none=>(D.it .i64 0,false))=(.it .i64 k,b)∧ -1000000≤k∧k≤(l.length:Int)+1000000∧(ovB m (l.drop (i+1)) w=true↔b=true∧(i:Int)<k):=by
 have hov:ovB m (l.drop (i+1)) w=true↔∃j:Nat,i<j∧∃v,l[j]? =some v∧m v=true∧v.a=w.a:=by
  unfold ovB
  rw[ky]
  constructor
  ·rintro ⟨v,hv,h2⟩
   rw[zf,decide_eq_true_eq]at h2
   obtain⟨j,hj,rfl⟩:=ug hv
   rw[yg]at hj
   exact⟨i+1+j,by omega,_,by rw[y9,zm (by omega)],h2⟩
  ·rintro ⟨j,hj,v,hv,h2,h3⟩
   refine⟨v,?_,by rw[h2,w9];exact decide_eq_true h3⟩
   refine yi (i:=j-(i+1)) ?_
   rw[w8,show i+1+(j-(i+1))=j by omega];exact hv
 rcases(QKv m l).2 w.a with⟨g1,g2⟩|⟨k,v,g1,g2,g3,g4,g5⟩
 ·refine ⟨0,false,by rw[g1],by omega,by omega,?_⟩
  rw[hov]
  constructor
  ·rintro ⟨j,hj,v,hv,h2,h3⟩
   exact absurd h3 (g2 j v hv h2)
  ·rintro ⟨h,_⟩;cases h
 ·have hkl:=(z8.1 g2).1
  refine⟨(k:Nat),true,by rw[g1],by omega,by omega,?_⟩
  rw[hov]
  constructor
  ·rintro ⟨j,hj,u,hu,h2,h3⟩
   refine⟨rfl,?_⟩
   have:¬k<j:=fun h=>g5 j h u hu h2 h3
   omega
  ·rintro ⟨_,h⟩
   exact⟨k,by omega,v,g2,g3,g4⟩
def QBL(m:Wr→Bool)(l:List Wr)(k:Nat):List Wr:=(List.range k).filterMap fun i=>match l[i]? with|some w=>if m w=true∨ovB m (l.drop (i+1)) w=true then none else some w|none=>none
theorem QJX{m:Wr→Bool}{l:List Wr}{k:Nat}{w:Wr}(h:l[k]? =some w):QBL m l (k+1)=QBL m l k++if m w=true∨ovB m (l.drop (k+1)) w=true then []else [w]:=by
 unfold QBL
 rw[wn,List.filterMap_append]
 congr 1
 simp only[Wf,List.filterMap_nil,h]
 split
 ·rename_i h2
  split at h2
  ·rename_i h3;rw[if_pos h3]
  ·cases h2
 ·rename_i x h2
  split at h2
  ·cases h2
  ·rename_i h3;rw[if_neg h3];rw[za h2]
theorem QFv(m:Wr→Bool):∀(t:List Wr),QBL m t t.length=XB m t
 |[]=>rfl
 |w::t=>by
  have ih:=QFv m t
  unfold QBL at ih⊢
  rw[yk,qs,Wf,List.filterMap_map]
  have e:((fun i=>match (w::t)[i]? with|some x=>if m x=true∨ovB m ((w::t).drop (i+1)) x=true then none else some x|none=>none)∘Nat.succ)=fun i=>match t[i]? with|some x=>if m x=true∨ovB m (t.drop (i+1)) x=true then none else some x|none=>none:=by
   funext i
   simp only[Function.comp,Nat.succ_eq_add_one,qn,u6]
  rw[e,ih]
  simp only[ui,u6,vg]
  show _=if m w=true∨t.any (fun v=>m v&&decide (v.a=w.a))=true then XB m t else w::XB m t
  by_cases h:m w=true∨ovB m t w=true
  ·rw [if_pos h];exact(if_pos h).symm
  ·rw [if_neg h];exact(if_neg h).symm
theorem QKw(m:Wr→Bool)(l:List Wr)(k:Nat):(QBL m l k).length≤k:=by
 unfold QBL
 refine xj (List.length_filterMap_le ..) ?_
 rw[y5];exact zr _
def bst:Option Int→Int|none=>0|some x=>x
def smB:Option Int→Bool|none=>false|some _=>true
theorem QJY(tags:List (Int×Int))(l:List Wr)(w:Wr):Xg tags (l++[w])=QKt tags (Xg tags l) w:=by unfold Xg;rw[ua];rfl
theorem frD{mem:List (Nat×Ob)}{n0 n1 n2 n3 n4:Nat}{fl:Bool}{d:Dk}(h0:Sy.look n0 mem=some (.cells 6 [.mp n3,.d (.it .i64 d.nx),.vx 32 n4 0 d.safe.length,.ts 36 (d.wait.map Qx) n1,.ts 38 d.log n2,.d (.it .i64 d.ep)]))(h4:Sy.look n4 mem=some (.vec 37 32 (d.safe.map QF) fl)):
  FrA mem [.ptr n0 0] [QS (some d)]:=
 FrA.fp n0 0 6 6 _ (QDf d) [] [] h0 (zr _) rfl (.pl _ _ _ _ rfl (.pl _ _ _ _ rfl (.vx _ _ _ _ _ _ _ _ h4 (ze ..) (.pl _ _ _ _ rfl (.pl _ _ _ _ rfl (.pl _ _ _ _ rfl .nil)))))) .nil
theorem frG{mem:List (Nat×Ob)}{n0 n1 n2 n3 n4 n5:Nat}{fl:Bool}{d:Dk}(h5:Sy.look n5 mem=some (.cells 1 [.ptr n0 0]))(h0:Sy.look n0 mem=some (.cells 6 [.mp n3,.d (.it .i64 d.nx),.vx 32 n4 0 d.safe.length,.ts 36 (d.wait.map Qx) n1,.ts 38 d.log n2,.d (.it .i64 d.ep)]))(h4:Sy.look n4 mem=some (.vec 37 32 (d.safe.map QF) fl)):
  FrA mem [.ptr n5 0] [.fp 1 [QS (some d)]]:=
 FrA.fp n5 0 1 1 _ [QS (some d)] [] [] h5 (zr _) rfl (frD h0 h4) .nil
theorem rFk{N f:Nat}{o:Oper}{σ:S}{l l':List AV}{K:S→Prop}{r:AV}(h:FnC Tryz.prog f l' r)(k:K (σ.put o.dst r))(hA:ArF σ.mem l l':=by first|exact ArF.fr _ _ _ _ (frG (by with_unfolding_all exact rfl) (by with_unfolding_all exact rfl) (by with_unfolding_all exact rfl)) (by repeat' (first|exact ArF.nil|refine ArF.pl _ _ _ _ rfl ?_))|exact ArF.fr _ _ _ _ (frD (by with_unfolding_all exact rfl) (by with_unfolding_all exact rfl)) (by repeat' (first|exact ArF.nil|refine ArF.pl _ _ _ _ rfl ?_)))
  (hr:r.flatP=true:=by with_unfolding_all exact rfl):CallI Tryz.prog N o σ f l K:=rF h k hA hr
def QCi(d:Option Dk):List (List UInt8):=match d with
 |none=>[]
 |some dk=>dk.safe
theorem QEa(d:Option Dk)(hd:XI d):FnC Tryz.prog 49 [.d (QS d)] (.d (.fs 32 ((QCi d).map QF))):=by
 have hn:=Jg d
 cases d with
 |none=>
  have hn:FnC Tryz.prog 57 [.d (.ot (.pointer none))] (.d (.bl true)):=hn
  refine QL i49 ?_
  (repeat' ((conv=>whnf);first|refine cEk hn ?_|refine QB ?_|intro x hx hu|intro h|refine Spp.mk ?_ ?_))
  rfl
 |some d=>
  obtain⟨nx,safe,wait,log,ep⟩:=d
  have hlen:safe.length≤65:=hd.2.2.1
  by_cases h0:safe=[]
  ·subst h0
   have hn:FnC Tryz.prog 57 [.d (.fp 6 (QDf ⟨nx,[],wait,log,ep⟩))] (.d (.bl true)):=hn
   refine QL i49 ?_
   (repeat' ((conv=>whnf);first|refine cEk hn ?_|refine QB ?_|intro x hx hu|intro h|refine Spp.mk ?_ ?_))
   rfl
  ·have hne:(safe.map QF).isEmpty=false:=by
    cases safe with
    |nil=>exact absurd rfl h0
    |cons=>rfl
   have hnb:QBp (some ⟨nx,safe,wait,log,ep⟩)=false:=decide_eq_false fun q=>h0 (yw.1 q)
   rw[hnb]at hn
   have hml':(safe.map QF).length=safe.length:=ze ..
   refine QL i49 ?_
   (repeat' ((conv=>whnf);first|refine cEk hn ?_|refine CallE.inl ?_|with_reducible refine CallI.inl QA i60 rfl ?_|with_reducible refine Spl.no hne ?_|refine QB ?_|intro x hx hu|intro h|refine Spp.mk ?_ ?_))
   rfl
def QBM(d:Option Dk):AV:=if QAF (YQ d)then .tup [.d (.fp 1 [QS d]),.d (.it .i64 0)]else .tup [.d (.ot (.pointer none)),.d (.it .i64 (if QCi d=[]then 1 else 8))]
theorem QKx(d:Option Dk):(YQ d).length=(QCi d).length:=by
 cases d with
 |none=>rfl
 |some dk=>unfold YQ QCi;simp
theorem QFw(d:Option Dk)(hd:XI d):FnC Tryz.prog 20 [.d (QS d)] (QBM d):=by
 have hs:=QEa d hd
 have hm:=QCb d hd
 have hl:=QKx d
 have hsl:((QCi d).map QF).length=(QCi d).length:=ze ..
 unfold QBM
 generalize QS d=E at*
 by_cases h0:QCi d=[]
 ·have hn:¬QAF (YQ d):=fun h=>by
   have:=h.1
   rw[hl,h0]at this;cases this
  rw[if_neg hn,if_pos h0]
  rw[h0]at hs
  refine QL i20 ?_
  (repeat' ((conv=>whnf);first|refine cEk hs ?_|refine QB ?_|intro x hx hu|intro h|refine Spp.mk ?_ ?_))
  rfl
 ·have h0':(QCi d).length≠0:=fun q=>h0 (yw.1 q)
  by_cases hp:QAF (YQ d)
  ·rw [if_pos hp]
   rw[decide_eq_true hp]at hm
   refine FnC.introW QA Tryz.func20 rfl Tryz.ntmps20 Tryz.call20 rfl (bll rfl) rfl ?_
   (repeat' ((conv=>whnf);first|refine cEk hs ?_|refine cEk hm ?_|refine QB ?_|intro x hx hu|intro h|refine Spp.mk ?_ ?_))
   refine⟨⟨[(2,.d (.fp 1 [E])),(3,.d (.it .i64 0))],[],1⟩,Wk.frzPL 0 1 [.d E] (by with_unfolding_all exact rfl) (ai ⟨_,by with_unfolding_all exact rfl,.inr ⟨[E],by with_unfolding_all exact rfl,rfl,rfl⟩⟩ (ai ⟨_,by with_unfolding_all exact rfl,.inl rfl⟩ trivial)) trivial rfl,?_⟩
   exact rfl
  ·rw [if_neg hp,if_neg h0]
   rw[decide_eq_false hp]at hm
   refine QL i20 ?_
   (repeat' ((conv=>whnf);first|refine cEk hs ?_|refine cEk hm ?_|refine QB ?_|intro x hx hu|intro h|refine Spp.mk ?_ ?_))
   rfl
theorem QJZ(E:D)(dk:Dk)(hE:E=QS (some dk)):FnC Tryz.prog 50 [.d (.fp 1 [E])] (.d (.bl false)):=by
 have hE:E= .fp 6 (QDf dk):=hE
 subst hE
 refine QL i50 ?_
 (repeat' ((conv=>whnf);first|refine QB ?_|intro x hx hu|intro h|refine Spp.mk ?_ ?_))
 rfl
theorem Yp(n:Int)(h:0≤n∧n≤1000):FnC Tryz.prog 122 [.d (.it .i64 n)] (.d (.it .i64 ((n+31)/32))):=by
 refine QL QQr ?_
 (repeat' ((conv=>whnf);first|refine QB ?_|intro x hx hu|intro h|refine Spp.mk ?_ ?_))
 refine QW ?_
 omega
theorem QKy(dk:Dk)(hd:XI (some dk))(b:Int)(hb: -1000≤b∧b≤1000):FnC Tryz.prog 123 [.d (.fp 1 [QS (some dk)]),.d (.it .i64 b)] (.dg 32 (QF (rdS (some dk) (40+b)))):=by
 have h:=QAe (some dk) hd (41+b-1)
 rw[show rdS (some dk) (41+b-1)=rdS (some dk) (40+b)from congrArg _ (by omega)]at h
 have hs:=XX hd (40+b)
 have h:FnC Tryz.prog 12 [.d (.fp 6 (QDf dk)),.d (.it .i64 (41+b-1))] (.tup [.dg 32 (QF (rdS (some dk) (40+b))),.d (.it .i64 (rdE (some dk) (41+b-1)))]):=h
 show FnC Tryz.prog 123 [.d (.fp 1 [.fp 6 (QDf dk)]),.d (.it .i64 b)] _
 obtain⟨g,hg⟩:=Xy hs
 rw[hg]at h⊢
 refine QL QQs ?_
 (repeat' ((conv=>whnf);first|refine cEk h ?_|refine QB ?_|intro x hx hu|intro h|refine Spp.mk ?_ ?_))
 all_goals rfl
theorem QFx:∀(l:List (List UInt8)),(∀s∈l,s.length≤8)→(QAa l).length≤9*l.length
 |[],_=>zr _
 |s::t,h=>by
  have h1:=QFx t fun x hx=>h x (zk _ hx)
  have h2:=h s zo
  have e:QAa (s::t)=47::s++QAa t:=rfl
  rw[e,zt,yk,yk];omega
theorem QMl(p:List UInt8):(XJ p).1.length≤100:=by
 unfold XJ
 split
 ·exact yf _
 ·split
  ·exact yf _
  ·have h1:=QBn p
   have h2:=QFx (QH p).1.dropLast fun s hs=>QFY h1.2.1 s (List.dropLast_subset _ hs)
   have h3:(QH p).1.dropLast.length≤4:=by rw[List.length_dropLast];omega
   unfold YC
   split
   ·show [47].length≤100;decide
   ·show (QAa _).length≤100;omega
def QIU(a:Plc):List D:=[.it .i64 a.fo,.st a.nm,.it .i64 a.k]
def QPz(a:Plc×Int):AV:= .tup [.dg 3 (QIU a.1),.d (.it .i64 a.2)]
theorem YZ(a:Plc):FnC Tryz.prog 146 [.dg 3 (QIU a)] (.d (.bl (decide (0≤a.k)))):=by
 obtain⟨fo,nm,k⟩:=a
 refine QL QQz ?_
 (repeat' ((conv=>whnf);first|refine QB ?_|intro x hx hu|intro h|refine Spp.mk ?_ ?_))
 rfl
theorem QAk(dk:Dk)(hd:XI (some dk))(n:Int):FnC Tryz.prog 127 [.d (.fp 1 [QS (some dk)]),.d (.it .i64 n)] (.d (.it .i64 (Qy (rdS (some dk)) n).k)):=by
 have hi:=Xe (some dk) hd n
 generalize QS (some dk)=E at*
 generalize Qy (rdS (some dk)) n=x at*
 obtain⟨k,z,b0,b1,b2,b3⟩:=x
 refine QL QQu ?_
 (repeat' ((conv=>whnf);first|refine cEk hi ?_|refine QB ?_|intro x hx hu|intro h|refine Spp.mk ?_ ?_))
 rfl
theorem QCj(dk:Dk)(hd:XI (some dk))(p:List UInt8)(hp:p.length≤100000):FnC Tryz.prog 144 [.d (.fp 1 [QS (some dk)]),.d (.st p)] (QPz (Zw (rdS (some dk)) p)):=by
 have h1:=QHB p hp
 rw[QKn]at h1
 have hul:=QMl p
 have h2:=X5 (some dk) hd (XJ p).1 (by omega)
 have h3:=QAk dk hd (Qa (rdS (some dk)) (XJ p).1).1
 have h4:=QIM (some dk) hd (Qa (rdS (some dk)) (XJ p).1).1 (XJ p).2.1
 unfold Zw QOJ
 generalize Qa (rdS (some dk)) (XJ p).1=r at*
 generalize XJ p=q at*
 obtain⟨up,nm,e⟩:=q
 obtain⟨n,g⟩:=r
 dsimp only at*
 generalize rdS (some dk)=f at*
 generalize QS (some dk)=E at*
 replace h2:FnC Tryz.prog 13 [.d E,.d (.st up)] (.tup [.d (.it .i64 n),.d (.it .i64 g)]):=h2
 replace h1:FnC Tryz.prog 181 [.d (.st p)] (.tup [.d (.st up),.d (.st nm),.d (.it .i64 e)]):=h1
 generalize (Qy f n).k=kk at*
 by_cases c1:e=0
 ·subst c1
  rw[if_neg (by simp)]
  by_cases c2:g=0
  ·subst c2
   rw[if_neg (by simp)]
   by_cases c3:kk=2
   ·subst c3
    rw[if_neg (by simp)]
    cases hk:JQ f n nm with
    |none=>
     rw[hk]at h4
     replace h4:FnC Tryz.prog 112 [.d E,.d (.it .i64 n),.d (.st nm)] (.tup [.d (.it .i64 0),.d (.bl false)]):=h4
     refine QL QKB ?_
     (repeat' ((conv=>whnf);first|refine cEk h1 ?_|refine cEk h2 ?_|refine cEk h3 ?_|refine cEk h4 ?_|refine QB ?_|intro x hx hu|intro h|refine Spp.mk ?_ ?_))
     rfl
    |some k=>
     rw[hk]at h4
     replace h4:FnC Tryz.prog 112 [.d E,.d (.it .i64 n),.d (.st nm)] (.tup [.d (.it .i64 (k:Nat)),.d (.bl true)]):=h4
     refine QL QKB ?_
     (repeat' ((conv=>whnf);first|refine cEk h1 ?_|refine cEk h2 ?_|refine cEk h3 ?_|refine cEk h4 ?_|refine QB ?_|intro x hx hu|intro h|refine Spp.mk ?_ ?_))
     rfl
   ·rw [if_pos c3]
    refine QL QKB ?_
    (repeat' ((conv=>whnf);first|refine cEk h1 ?_|refine cEk h2 ?_|refine cEk h3 ?_|refine QB ?_|intro x hx hu|intro h|refine Spp.mk ?_ ?_))
    rfl
  ·rw [if_pos c2]
   refine QL QKB ?_
   (repeat' ((conv=>whnf);first|refine cEk h1 ?_|refine cEk h2 ?_|refine QB ?_|intro x hx hu|intro h|refine Spp.mk ?_ ?_))
   rfl
 ·rw [if_pos c1]
  refine QL QKB ?_
  (repeat' ((conv=>whnf);first|refine cEk h1 ?_|refine QB ?_|intro x hx hu|intro h|refine Spp.mk ?_ ?_))
  rfl
def QJa(a:Plc×Int):Plc×Int:=if a.2=0∧a.1.k<0 then(a.1,4)else a
theorem QKz(dk:Dk)(hd:XI (some dk))(p:List UInt8)(hp:p.length≤100000):FnC Tryz.prog 126 [.d (.fp 1 [QS (some dk)]),.d (.st p)] (QPz (QJa (Zw (rdS (some dk)) p))):=by
 have h1:=QCj dk hd p hp
 have h2:=YZ (Zw (rdS (some dk)) p).1
 generalize Zw (rdS (some dk)) p=a at*
 obtain⟨⟨fo,nm,k⟩,e⟩:=a
 generalize QS (some dk)=E at*
 replace h1:FnC Tryz.prog 144 [.d (.fp 1 [E]),.d (.st p)] (.tup [.dg 3 [.it .i64 fo,.st nm,.it .i64 k],.d (.it .i64 e)]):=h1
 replace h2:FnC Tryz.prog 146 [.dg 3 [.it .i64 fo,.st nm,.it .i64 k]] (.d (.bl (decide (0≤k)))):=h2
 unfold QJa
 dsimp only
 by_cases c1:e=0
 ·subst c1
  by_cases c2:k<0
  ·rw [if_pos ⟨rfl,c2⟩]
   rw[decide_eq_false (by omega)]at h2
   refine QL QNx ?_
   (repeat' ((conv=>whnf);first|refine cEk h1 ?_|refine cEk h2 ?_|refine QB ?_|intro x hx hu|intro h|refine Spp.mk ?_ ?_))
   rfl
  ·rw [if_neg (by simp[c2])]
   rw[decide_eq_true (by omega)]at h2
   refine QL QNx ?_
   (repeat' ((conv=>whnf);first|refine cEk h1 ?_|refine cEk h2 ?_|refine QB ?_|intro x hx hu|intro h|refine Spp.mk ?_ ?_))
   rfl
 ·rw [if_neg (by simp[c1])]
  refine QL QNx ?_
  (repeat' ((conv=>whnf);first|refine cEk h1 ?_|refine QB ?_|intro x hx hu|intro h|refine Spp.mk ?_ ?_))
  rfl
def QRh(q:Int×Ino×Int):AV:= .tup [.d (.it .i64 q.1),.dg 6 (Xc q.2.1),.d (.it .i64 q.2.2)]
theorem QCk(dk:Dk)(hd:XI (some dk))(p:List UInt8)(hp:p.length≤100000):FnC Tryz.prog 103 [.d (.fp 1 [QS (some dk)]),.d (.st p)] (QRh (Y2 (rdS (some dk)) p)):=by
 have hl:=X5 (some dk) hd p hp
 have hi:=Xe (some dk) hd (Qa (rdS (some dk)) p).1
 have hn:=QJZ (QS (some dk)) dk rfl
 unfold Y2
 generalize Qa (rdS (some dk)) p=r at*
 obtain⟨n,g⟩:=r
 dsimp only at*
 generalize QS (some dk)=E at*
 replace hl:FnC Tryz.prog 13 [.d E,.d (.st p)] (.tup [.d (.it .i64 n),.d (.it .i64 g)]):=hl
 generalize Qy (rdS (some dk)) n=x at*
 obtain⟨k,z,b0,b1,b2,b3⟩:=x
 by_cases c1:g=0
 ·subst c1
  rw[if_neg (by simp)]
  by_cases c2:k=1
  ·subst c2
   rw[if_neg (by simp)]
   refine QL QNw ?_
   (repeat' ((conv=>whnf);first|refine cEk hn ?_|refine cEk hl ?_|refine cEk hi ?_|refine QB ?_|intro x hx hu|intro h|refine Spp.mk ?_ ?_))
   rfl
  ·rw [if_pos c2]
   refine QL QNw ?_
   (repeat' ((conv=>whnf);first|refine cEk hn ?_|refine cEk hl ?_|refine cEk hi ?_|refine QB ?_|intro x hx hu|intro h|refine Spp.mk ?_ ?_))
   rfl
 ·rw [if_pos c1]
  refine QL QNw ?_
  (repeat' ((conv=>whnf);first|refine cEk hn ?_|refine cEk hl ?_|refine cEk hi ?_|refine QB ?_|intro x hx hu|intro h|refine Spp.mk ?_ ?_))
  rfl
def tpT:List D:=[.it .i64 0,.it .i64 0]
theorem QBq:YP Tryz.prog 47 tpT:=YP.struct Tryz.underlying47 (by kernel_rfl) (by kernel_rfl)
def tuA(T:Nat→Nat)(tags:List (Int×Int))(M:List (List D×D))(ws:List Wr)(k:Nat):S:=⟨[(1,.mp 0),(6,.d (.it .i64 (bst (Xg tags (ws.take k))))),(7,.d (.bl (smB (Xg tags (ws.take k))))),(10,.d (.fs 36 (ws.map Qx))),(11,.d (.it .i64 (ws.length:Nat))),(12,.d (.it .i64 (k:Nat)))],[(0,.mp true true tpT M),(1,.cells 1 [.mp 0])]++Qn 2 [1] T,4⟩
theorem QOP(tags:List (Int×Int))(ws:List Wr)(hw:∀w∈ws,w.s.length=32)(hl:ws.length≤100000):
  FnH Tryz.prog 217 [.d (.fs 36 (ws.map Qx)),.mp 0] [(0,.mp true true tpT (mpT tags)),(1,.cells 1 [.mp 0])] 2 [1] (.tup [.d (.it .i64 (bst (Xg tags ws))),.d (.bl (smB (Xg tags ws)))]) [(0,.mp true true tpT (mpT tags)),(1,.cells 1 [.mp 0])] 2:=by
 have hwl:(ws.map Qx).length=ws.length:=ze ..
 have hg0:=QIT tags
 generalize mpT tags=M at*
 refine QR QRI fun T=>?_
 (repeat' ((conv=>whnf);first|refine QB ?_|intro x hx hu|intro h|refine Spp.mk ?_ ?_))
 conv=>whnf
 refine Qs QA (fun k:Nat=>k≤ws.length) (tuA T tags M ws) (fun k=>ws.length-k) 0 (yf _) (Wk.en ⟨ai rfl (ai rfl (ai rfl (ai rfl (ai (QW (by rw[hwl])) (ai rfl trivial))))),(ai rfl (ai rfl (ai rfl (ai rfl trivial)))),rfl⟩) ?_
 intro k hk
 by_cases hkl:k<ws.length
 ·obtain ⟨w,hx⟩:=ZD hkl
  have hws:=hw w (yi hx)
  have hg:=hg0 w
  have htk:Xg tags (ws.take (k+1))=QKt tags (Xg tags (ws.take k)) w:=by rw[Q3 hx,QJY]
  have hto:∀ {N:Nat} {σ:S} {r:Option Int},QKt tags (Xg tags (ws.take k)) w=r→Wk N σ ⟨[(1,.mp 0),(6,.d (.it .i64 (bst r))),(7,.d (.bl (smB r))),(10,.d (.fs 36 (ws.map Qx))),(11,.d (.it .i64 (ws.length:Nat))),(12,.d (.it .i64 ((k+1:Nat):Int)))],[(0,.mp true true tpT M),(1,.cells 1 [.mp 0])]++Qn 2 [1] T,4⟩→Wk N σ (tuA T tags M ws (k+1)):=fun h q=>by unfold tuA;rw[htk,h];exact q
  have hS:QKt tags (Xg tags (ws.take k)) w=if tgB tags w=true then(match Xg tags (ws.take k)with|none=>some w.e|some x=>some (max x w.e))else Xg tags (ws.take k):=rfl
  unfold tuA
  generalize Xg tags (ws.take k)=t at*
  obtain⟨wa,wS,wk,wi,we⟩:=w
  obtain⟨g,rfl⟩:=Xy hws
  dsimp only at hS hg
  by_cases htg:tgB tags ⟨wa,ZN g,wk,wi,we⟩=true
  ·rw [if_pos htg]at hg hS
   cases t with
   |none=>
    (repeat' ((conv=>whnf);first|((with_reducible refine Q8 ?_);refine OpX.lookupA (kk:=2) (kx:=[.it .i64 wk,.it .i64 wi]) (l:=M) rfl rfl Tryz.underlying223 QBq (fun w=>Tryz.zeroValue3 w) (fun F=> .it _ _) rfl rfl rfl rfl hg ?_)|with_reducible refine ZY hx ?_|with_reducible refine AtA.mk' ?_|refine QB ?_|intro x hx hu|intro h|refine Spp.mk ?_ ?_))
    all_goals first|(exfalso;omega)|skip
    exact⟨k+1,hkl,by first|omega|(dsimp only;omega),hto hS (Wk.en ⟨ai rfl (ai rfl (ai rfl (ai rfl (ai rfl (ai (QW (by omega)) trivial))))),(ai rfl (ai rfl (ai rfl (ai rfl trivial)))),rfl⟩)⟩
   |some x=>
    by_cases hxe:x<we
    ·have hm:max x we=we:=by omega
     dsimp only at hS
     rw[hm]at hS
     unfold bst smB
     (repeat' ((conv=>whnf);first|((with_reducible refine Q8 ?_);refine OpX.lookupA (kk:=2) (kx:=[.it .i64 wk,.it .i64 wi]) (l:=M) rfl rfl Tryz.underlying223 QBq (fun w=>Tryz.zeroValue3 w) (fun F=> .it _ _) rfl rfl rfl rfl hg ?_)|with_reducible refine ZY hx ?_|with_reducible refine AtA.mk' ?_|refine QB ?_|intro x hx hu|intro h|refine Spp.mk ?_ ?_))
     all_goals first|(exfalso;omega)|skip
     exact⟨k+1,hkl,by first|omega|(dsimp only;omega),hto hS (Wk.en ⟨ai rfl (ai rfl (ai rfl (ai rfl (ai rfl (ai (QW (by omega)) trivial))))),(ai rfl (ai rfl (ai rfl (ai rfl trivial)))),rfl⟩)⟩
    ·have hm:max x we=x:=by omega
     dsimp only at hS
     rw[hm]at hS
     unfold bst smB
     (repeat' ((conv=>whnf);first|((with_reducible refine Q8 ?_);refine OpX.lookupA (kk:=2) (kx:=[.it .i64 wk,.it .i64 wi]) (l:=M) rfl rfl Tryz.underlying223 QBq (fun w=>Tryz.zeroValue3 w) (fun F=> .it _ _) rfl rfl rfl rfl hg ?_)|with_reducible refine ZY hx ?_|with_reducible refine AtA.mk' ?_|refine QB ?_|intro x hx hu|intro h|refine Spp.mk ?_ ?_))
     all_goals first|(exfalso;omega)|skip
     exact⟨k+1,hkl,by first|omega|(dsimp only;omega),hto hS (Wk.en ⟨ai rfl (ai rfl (ai rfl (ai rfl (ai rfl (ai (QW (by omega)) trivial))))),(ai rfl (ai rfl (ai rfl (ai rfl trivial)))),rfl⟩)⟩
  ·rw [if_neg htg]at hg hS
   (repeat' ((conv=>whnf);first|((with_reducible refine Q8 ?_);refine OpX.lookupA (kk:=2) (kx:=[.it .i64 wk,.it .i64 wi]) (l:=M) rfl rfl Tryz.underlying223 QBq (fun w=>Tryz.zeroValue3 w) (fun F=> .it _ _) rfl rfl rfl rfl hg ?_)|with_reducible refine ZY hx ?_|with_reducible refine AtA.mk' ?_|refine QB ?_|intro x hx hu|intro h|refine Spp.mk ?_ ?_))
   all_goals first|(exfalso;omega)|skip
   exact⟨k+1,hkl,by first|omega|(dsimp only;omega),hto hS (Wk.en ⟨ai rfl (ai rfl (ai rfl (ai rfl (ai rfl (ai (QW (by omega)) trivial))))),(ai rfl (ai rfl (ai rfl (ai rfl trivial)))),rfl⟩)⟩
 ·have hke:k=ws.length:=by omega
  subst hke
  unfold tuA
  rw[wz]
  (repeat' ((conv=>whnf);first|refine QB ?_|intro x hx hu|intro h|refine Spp.mk ?_ ?_))
  all_goals first|(exfalso;omega)|skip
  exact QJ
theorem QMm(tags:List (Int×Int))(t:Option Int)(w:Wr)(hws:w.s.length=32):
  FnH Tryz.prog 218 [.dg 36 (Qx w),.ptr 1 0,.ptr 3 0,.ptr 2 0] [(0,.mp true true tpT (mpT tags)),(1,.cells 1 [.mp 0]),(2,.cells 1 [.d (.it .i64 (bst t))]),(3,.cells 1 [.d (.bl (smB t))])] 4 [1,2,3] (.d (.bl (QAG tags t w))) [(0,.mp true true tpT (mpT tags)),(1,.cells 1 [.mp 0]),(2,.cells 1 [.d (.it .i64 (bst t))]),(3,.cells 1 [.d (.bl (smB t))])] 4:=by
 have hg:=QIT tags w
 have hm:QAG tags t w=(tgB tags w||match t with|none=>false|some x=>decide (w.e<x)):=rfl
 generalize mpT tags=M at*
 generalize QAG tags t w=R at*
 generalize tgB tags w=tg at*
 obtain⟨wa,wS,wk,wi,we⟩:=w
 obtain⟨g,rfl⟩:=Xy hws
 dsimp only at hg hm
 cases tg with
 |true=>
  rw[if_pos rfl]at hg
  rw[Bool.true_or]at hm
  subst hm
  refine QR QN2 fun T=>?_
  (repeat' ((conv=>whnf);first|((with_reducible refine Q8 ?_);refine OpX.lookupA (kk:=2) (kx:=[.it .i64 wk,.it .i64 wi]) (l:=M) rfl rfl Tryz.underlying223 QBq (fun w=>Tryz.zeroValue3 w) (fun F=> .it _ _) rfl rfl rfl rfl hg ?_)|with_reducible refine AtA.mk' ?_|refine QB ?_|intro x hx hu|intro h|refine Spp.mk ?_ ?_))
  all_goals first|(exfalso;omega)|skip
  exact QJ
 |false=>
  rw[if_neg (by decide)]at hg
  rw[u0]at hm
  cases t with
  |none=>
   dsimp only at hm
   subst hm
   refine QR QN2 fun T=>?_
   (repeat' ((conv=>whnf);first|((with_reducible refine Q8 ?_);refine OpX.lookupA (kk:=2) (kx:=[.it .i64 wk,.it .i64 wi]) (l:=M) rfl rfl Tryz.underlying223 QBq (fun w=>Tryz.zeroValue3 w) (fun F=> .it _ _) rfl rfl rfl rfl hg ?_)|with_reducible refine AtA.mk' ?_|refine QB ?_|intro x hx hu|intro h|refine Spp.mk ?_ ?_))
   all_goals first|(exfalso;omega)|skip
   exact QJ
  |some x=>
   dsimp only at hm
   unfold bst smB
   subst hm
   refine QR QN2 fun T=>?_
   (repeat' ((conv=>whnf);first|((with_reducible refine Q8 ?_);refine OpX.lookupA (kk:=2) (kx:=[.it .i64 wk,.it .i64 wi]) (l:=M) rfl rfl Tryz.underlying223 QBq (fun w=>Tryz.zeroValue3 w) (fun F=> .it _ _) rfl rfl rfl rfl hg ?_)|with_reducible refine AtA.mk' ?_|refine QB ?_|intro x hx hu|intro h|refine Spp.mk ?_ ?_))
   all_goals first|(exfalso;omega)|skip
   all_goals exact QJ
theorem QK0(es:List (List D))(hl:es.length≤100000):FnC Tryz.prog 68 [.d (.fs 2 es)] (.d (.fs 2 es)):=by
 refine QL i68 ?_
 (repeat' ((conv=>whnf);first|refine QB ?_|intro x hx hu|intro h|refine Spp.mk ?_ ?_))
 all_goals first|rfl|(obtain rfl:es=[]:=(by cases es with|nil=>rfl|cons=>(rename_i h _;cases h));rfl)
section
variable {R:List Bool} {n:Nat} {b:Bool} {ty:Ty} {off i j:Nat}
theorem ldR(hb:R[n]? =some b)(ha:ty.kd.agg=false)(ho:off=0+n*1):ldA ty off ((R.map D.bl).map AV.d)= .d (.bl b):=by
 subst ho
 unfold ldA
 rw[ha,cond_false,z1,yy,yy,show 0+n*1=n by omega,hb];rfl
theorem QP0(h:R.length=16)(ha:ty.kd.agg=true)(hz:ty.size=16):ldA ty 0 ((R.map D.bl).map AV.d)= .dg 16 (R.map D.bl):=by
 unfold ldA
 rw[ha,cond_true,hz,vg,yd (by simp[h])]
 unfold QCu
 rw[YB]
theorem QP1(h:R.length=16){a:List AV}(hx:a=(R.map D.bl).map AV.d)(ha:ty.kd.agg=true)(hz:ty.size=16):ldA ty 0 a= .dg 16 (R.map D.bl):=by rw[hx];exact QP0 h ha hz
theorem stR(hn:n<R.length)(hi:i=0+n*1)(hj:j=i+1):((R.map D.bl).map AV.d).take i++[AV.d (.bl b)]++((R.map D.bl).map AV.d).drop j=((R.set n b).map D.bl).map AV.d:=by
 subst hi hj
 rw[show 0+n*1=n by omega,Wi,Wi,ku,if_pos (by simpa using hn)];simp
end
def vN(l:List Nat):List (List D):=l.map fun i:Nat=>[.it .i64 (i:Nat)]
theorem QIV(n:Nat)(l:List D):(l.map AV.d).map (AV.down1 n)=l.map AV.d:=by rw[uo];rfl
def s1(a:Nat)(i:Nat):List (Nat×AV):=[(a,.d (.it .i64 ((i+1:Nat):Nat)))]
def s2(i k:Nat):List (Nat×AV):=[(5,.d (.it .i64 ((i+1:Nat):Nat))),(6,.d (.it .i64 (k:Nat)))]
theorem QP2{R:List Bool}{k:Nat}{b:Bool}(hb:R[k]? =some b){ty:Ty}(ha:ty.kd.agg=false){j:Nat}(hj:j=k*1):ldD ty ((R.map D.bl).drop j)= .d (.bl b):=by
 subst hj
 unfold ldD
 rw[ha,cond_false,jo,z1,w8,xg,yy,hb];rfl
theorem QP3{R:List Bool}{N:Nat}{ty:Ty}(h:R.length=N)(ha:ty.kd.agg=true)(hz:ty.size=N):ldA ty 0 ((R.map D.bl).map AV.d)= .dg N (R.map D.bl):=by
 unfold ldA
 rw[ha,cond_true,hz,vg,yd (by simp[h])]
 unfold QCu
 rw[YB]
def iR(f:Int→List UInt8)(k:Nat):List Bool:=(List.range 16).map fun n:Nat=>decide (n=0)||(List.range k).any fun j:Nat=>(QK f (j:Nat)).u&&decide ((QK f (j:Nat)).t=(n:Nat))
theorem QCl(f:Int→List UInt8)(k:Nat):(iR f k).length=16:=by unfold iR;rw[ze,y5]
theorem QP4{f:Int→List UInt8}{k:Nat}(h:(QK f (k:Nat)).u=false):iR f (k+1)=iR f k:=by
 unfold iR
 refine uh fun n _=>?_
 rw[wn,jf]
 simp[h]
theorem QK1(f:Int→List UInt8)(k n:Nat)(h:n<(iR f k).length):(iR f k)[n]=(decide (n=0)||(List.range k).any fun j:Nat=>(QK f (j:Nat)).u&&decide ((QK f (j:Nat)).t=(n:Nat))):=by
 simp only[iR,zx,xy]
theorem QOQ{f:Int→List UInt8}{k:Nat}{t:Int}(h:(QK f (k:Nat)).u=true)(ht:(QK f (k:Nat)).t=t)(h0:0≤t∧t<16):iR f (k+1)=(iR f k).set t.toNat true:=by
 refine ud (by rw[wo,QCl,QCl]) fun n h1 h2=>?_
 have e:(List.range (k+1)).any (fun j:Nat=>(QK f (j:Nat)).u&&decide ((QK f (j:Nat)).t=(n:Nat)))=((List.range k).any (fun j:Nat=>(QK f (j:Nat)).u&&decide ((QK f (j:Nat)).t=(n:Nat)))||decide (t=(n:Nat))):=by
  rw[wn,jf]
  simp[h,ht]
 rw[vn,QK1,QK1,e]
 by_cases hn:t.toNat=n
 ·rw [if_pos hn,decide_eq_true (show t=((n:Nat):Int) by omega)]
  simp
 ·rw [if_neg hn,decide_eq_false (show¬t=((n:Nat):Int) by omega)]
  simp
theorem QK2(f:Int→List UInt8):iR f 24=(List.range 16).map fun n:Nat=>decide (JH f (n:Nat)):=by
 unfold iR
 refine uh fun n _=>?_
 rw[xw,decide_eq_true_eq,xx,decide_eq_true_eq,ky]
 unfold JH
 constructor
 ·rintro (h|⟨j,hj,h⟩)
  ·exact .inl (by omega)
  ·rw [zf,decide_eq_true_eq]at h
   exact .inr ⟨j,xd.1 hj,h⟩
 ·rintro (h|⟨j,hj,h1,h2⟩)
  ·exact .inl (by omega)
  ·exact .inr ⟨j,xd.2 hj,by rw[zf,decide_eq_true_eq];exact⟨h1,h2⟩⟩
def ioS(E:D)(R:List Bool)(k:Nat):S:=⟨[(0,.d E),(2,.ptr 0 0),(3,.ptr 1 0),(7,.d (.it .i64 (k:Nat)))],[(0,.cells 16 ((F16.map D.bl).map .d)),(1,.cells 16 ((R.map D.bl).map .d))],2⟩
theorem QHP(E:D)(R:List Bool)(k:Nat):(ioS E R k).ok=true:=by
 unfold ioS
 simp only[S.ok,xe,xv,Ob.lt,YA];rfl
theorem QDn(d:Option Dk)(hd:XI d):FnC Tryz.prog 194 [.d (QS d)] (.dg 16 ((iR (rdS d) 24).map D.bl)):=by
 have he:=fun n=>Xf d hd n
 have hRE:=fun k:Nat=>QKm (rdS d) (k:Nat)
 have hn:=fun{k:Nat}=> @QP4 (rdS d) k
 have hy:=fun{k:Nat} {t:Int}=> @QOQ (rdS d) k t
 have hl:=QCl (rdS d)
 have h0:iR (rdS d) 0=true::List.replicate 15 false:=rfl
 generalize iR (rdS d)=J at*
 generalize QS d=E at*
 refine QL QRA ?_
 (repeat' ((conv=>whnf);first|refine QB ?_|intro x hx hu|intro h|refine Spp.mk ?_ ?_))
 conv=>whnf
 refine Zb QA (fun x:Nat×List Bool=>x.1≤24∧x.2=J x.1) (fun|(k,R)=>ioS E R k) (fun x=>24-x.1) (0,true::List.replicate 15 false) ⟨yf _,h0.symm⟩ ⟨(ai rfl (ai rfl (ai rfl (ai rfl trivial)))),ai (cells_eq rfl (by with_unfolding_all exact rfl)) (ai (cells_eq rfl (by with_unfolding_all exact rfl)) trivial),QHP ..⟩ ?_
 intro⟨k,R⟩ hk0
 have hk:=hk0.1
 have hR:=hk0.2
 dsimp only at hk hR
 have hl1:R.length=16:=by rw[hR,hl]
 by_cases hk24:k<24
 ·have hek:=he (k:Nat)
  have hREk:=hRE k
  have hn:=hn (k:=k)
  have hy:=fun{t:Int}=>hy (k:=k) (t:=t)
  generalize QK (rdS d) (k:Nat)=x at*
  obtain⟨xu,xp,xn,xt⟩:=x
  dsimp only at*
  replace hek:FnC Tryz.prog 113 [.d E,.d (.it .i64 (k:Nat))] (.dg 4 [.bl xu,.it .i64 xp,.st xn,.it .i64 xt]):=hek
  cases xu with
  |false=>
   have hst:=hn rfl
   (repeat' ((conv=>whnf);first|refine cEk hek ?_|refine QB ?_|intro x hx hu|intro h|refine Spp.mk ?_ ?_))
   refine again (k+1,R) ⟨hk24,hR.trans hst.symm⟩ (by first|omega|(dsimp only;omega)) (ai rfl (ai rfl (ai rfl (ai (QW (by first|omega|(dsimp only;omega))) trivial)))) (ai rfl (ai rfl trivial)) (QHP ..)
  |true=>
   have hb:1≤xt∧xt<16:=by
    rcases hREk with q|q
    ·cases q.1
    ·exact ⟨q.2.2.2.1,q.2.2.2.2.1⟩
   have hst:=hy rfl rfl ⟨by omega,hb.2⟩
   rw[←hR]at hst
   have htl:xt.toNat<R.length:=by omega
   (repeat' ((conv=>whnf);first|refine cEk hek ?_|refine QB ?_|intro x hx hu|intro h|refine Spp.mk ?_ ?_))
   refine again (k+1,R.set xt.toNat true) ⟨hk24,hst.symm⟩ (by first|omega|(dsimp only;omega)) (ai rfl (ai rfl (ai rfl (ai (QW (by first|omega|(dsimp only;omega))) trivial)))) (ai rfl (ai (cells_eq rfl (stR htl rfl rfl)) trivial)) (QHP ..)
 ·have h24:k=24:=by omega
  rw[h24]at hR
  (repeat' ((conv=>whnf);first|((with_reducible refine ZL ?_);refine AtA.eq (QP0 hl1 rfl rfl) ?_)|refine QB ?_|intro x hx hu|intro h|refine Spp.mk ?_ ?_))
  conv=>whnf
  generalize hv:ldA _ 0 _=v
  have hv':v= .dg 16 (R.map D.bl):=by
   rw[←hv]
   refine QP1 hl1 ?_ rfl rfl
   show []++_++List.drop (0+16) ((F16.map D.bl).map AV.d)=_
   rw[y3,show List.drop (0+16) ((F16.map D.bl).map AV.d)=[]from rfl,y7]
  rw[hv']
  show AV.dg 16 (R.map D.bl)=_
  rw[hR]
def FL(mk:Nat→Bool)(low i:Nat):List Nat:=(List.range' low (i-low)).filter fun j=> !(mk j)
theorem QCK{mk:Nat→Bool}{low i:Nat}(h:low≤i):FL mk low (i+1)=FL mk low i++if mk i=true then []else [i]:=by
 unfold FL
 rw[show i+1-low=(i-low)+1 by omega,List.range'_concat,vr,jp,show low+(i-low)=i by omega]
 congr 1
 cases h:mk i<;>simp[h]
theorem QK3{mk:Nat→Bool}{low i:Nat}(h:low≤i):∀j,∃t,FL mk low (i+j)=FL mk low i++t
 |0=>⟨[],by simp⟩
 |j+1=>by
  obtain⟨t,ht⟩:=QK3 h j
  rw[←xo,QCK (by omega),ht,x5]
  exact⟨_,rfl⟩
theorem QEb{mk:Nat→Bool}{low i all n:Nat}(h:low≤i)(ha:i≤all)(hn:n≤(FL mk low i).length):(FL mk low i).take n=(FL mk low all).take n:=by
 obtain⟨t,ht⟩:=QK3 (mk:=mk) h (all-i)
 rw[show i+(all-i)=all by omega]at ht
 rw[ht,wy hn]
theorem QHQ(mk:Nat→Bool)(low i:Nat):(FL mk low i).length≤i-low:=by
 unfold FL
 refine xj (ur _ _) ?_
 rw[List.length_range'];exact zr _
theorem okC{l:List D}{k N m:Nat}(h:k<m):([(k,Ob.cells N (l.map .d))].all fun p=>Nat.blt p.1 m&&p.2.lt m&&p.2.pl)=true:=by
 simp only[xe,xv,Ob.lt,Ob.pl,YA,x7]
 simp[h]
theorem ntC{l:List D}{k N:Nat}{st:List Nat}:([(k,Ob.cells N (l.map .d))].all fun p=>p.2.nt st p.1)=true:=by
 simp[Ob.nt,AV.nt1,AV.nt0]
def fiA(f:Nat)(low all n:Nat)(N:Nat)(R:List Bool)(T:Nat→Nat)(i:Nat)(l:List Nat):S:=⟨[(0,.d (.it .i64 (low:Nat))),(1,.d (.it .i64 (all:Nat))),(2,.d (.it .i64 (n:Nat))),(3,.fn (.func f) [] [.ptr 0 0]),(9,.ts 1 (vN l) 4),(10,.d (.it .i64 (i:Nat)))],(0,.cells N ((R.map D.bl).map .d))::(4,.tail 3 true)::Qn 1 [0] T,5⟩
theorem QBN(f:Nat)(low all n:Nat)(N:Nat)(R:List Bool)(T:Nat→Nat)(i:Nat)(l:List Nat):(fiA f low all n N R T i l).ok=true:=by
 unfold fiA
 simp only[S.ok,xe,xv,Ob.lt,YA];rfl
theorem QEc(l:List (List D))(N:Nat)(R:List Bool)(T:Nat→Nat):(S.mk [(8,.d (.fs 1 l))] ((0,.cells N ((R.map D.bl).map .d))::Qn 1 [0] T) 5).ok=true:=by
 simp only[S.ok,xe,xv,Ob.lt,YA];rfl
theorem QJb(R:List Bool)(hR:R.length=16)(low all n:Nat)(ha:all≤16)(hn:n≤1000)(hla:low≤all):
  FnH Tryz.prog 196 [.d (.it .i64 (low:Nat)),.d (.it .i64 (all:Nat)),.d (.it .i64 (n:Nat)),.fn (.func 197) [] [.ptr 0 0]] [(0,.cells 16 ((R.map D.bl).map .d))] 1 [0] (.d (.fs 1 (vN ((FL (fun j=>R.getD j false) low all).take n)))) [(0,.cells 16 ((R.map D.bl).map .d))] 1:=by
 have hs:=fun{i:Nat}=> @QCK (fun j=>R.getD j false) low i
 have ht:=fun{i:Nat}=> @QEb (fun j=>R.getD j false) low i all n
 have hfl:=QHQ (fun j=>R.getD j false) low
 have h0:FL (fun j=>R.getD j false) low low=[]:=by unfold FL;rw[jg];rfl
 generalize FL (fun j=>R.getD j false) low=F at*
 refine FnH.intro QA Tryz.func196 rfl Tryz.ntmps196 Tryz.call196 rfl (okC (by decide)) (okC (by decide)) (by decide) rfl rfl ntC rfl rfl (fun T=>?_)
 (repeat' ((conv=>whnf);first|refine QB ?_|intro x hx hu|intro h|refine Spp.mk ?_ ?_))
 conv=>whnf
 refine Qs QA (fun x:Nat×List Nat=>low≤x.1∧x.1≤all∧x.2=(F x.1).take n) (fun|(i,l)=>fiA 197 low all n 16 R T i l) (fun x=>all-x.1) (low,[]) ⟨zr _,hla,by rw[h0,ju]⟩ (Wk.en ⟨(ai rfl (ai rfl (ai rfl (ai rfl (ai rfl (ai rfl trivial)))))),(ai rfl (ai rfl (ai rfl (ai rfl trivial)))),QBN ..⟩) ?_
 intro⟨i,l⟩ hi0
 have hi1:=hi0.1
 have hi2:=hi0.2.1
 have hil:=hi0.2.2
 dsimp only at hi1 hi2 hil
 have hll:(vN l).length=l.length:=ze ..
 have hfi:=hfl i
 have hl2:l.length≤n∧l.length≤(F i).length:=by rw[hil,z2];omega
 have hst:n≤l.length∨¬i<all→l=(F all).take n:=fun h=>by
  rcases h with h|h
  ·rw [hil,ht hi1 hi2 (by omega)]
  ·rw [hil,show i=all by omega]
 have hgo:l.length<n→l=F i:=fun h=>by
  rw[hil,z2]at h
  rw[hil,yd (by omega)]
 have hsu:=hs hi1
 have hres:l=(F all).take n→AV.d (.fs 1 (vN l))=AV.d (.fs 1 (vN ((F all).take n))):=fun h=>by rw[h]
 by_cases hia:i<all
 ·obtain ⟨r,hr⟩:=ZD (l:=R) (k:=i) (by omega)
  have hrd:R.getD i false=r:=by rw[z1,hr];rfl
  rw[hrd]at hsu
  by_cases hln:l.length<n
  ·have hlF:=hgo hln
   cases r with
   |true=>
    rw[if_pos rfl,y7]at hsu
    (repeat' ((conv=>whnf);first|((with_reducible refine ZL ?_);refine AtA.eq (ldR hr rfl rfl) ?_)|refine CallE.inl ?_|with_reducible refine CallI.inl QA QPd rfl ?_|refine QB ?_|intro x hx hu|intro h|refine Spp.mk ?_ ?_))
    all_goals first|(exfalso;omega)|skip
    exact⟨(i+1,l),⟨by omega,hia,by rw[hsu,←hlF,yd (by omega)]⟩,by first|omega|(dsimp only;omega),Wk.en ⟨ai rfl (ai rfl (ai rfl (ai rfl (ai rfl (ai (QW (by omega)) trivial))))),(ai rfl (ai rfl (ai rfl (ai rfl trivial)))),QBN ..⟩⟩
   |false=>
    rw[if_neg (by simp)]at hsu
    (repeat' ((conv=>whnf);first|((with_reducible refine ZL ?_);refine AtA.eq (ldR hr rfl rfl) ?_)|refine CallE.inl ?_|with_reducible refine CallI.inl QA QPd rfl ?_|refine QB ?_|intro x hx hu|intro h|refine Spp.mk ?_ ?_))
    all_goals first|(exfalso;omega)|skip
    refine⟨(i+1,l++[i]),⟨by omega,hia,by rw[hsu,←hlF,yd (by rw[zt,xb];omega)]⟩,by first|omega|(dsimp only;omega),Wk.en ⟨ai rfl (ai rfl (ai rfl (ai rfl (ai (QIx ?_) (ai (QW (by omega)) trivial))))),ai (cells_eq rfl (QIV ..)) (ai rfl (ai rfl (ai rfl trivial))),QBN ..⟩⟩
    show _=vN (l++[i])
    unfold vN
    rw[yv];rfl
  ·have hth:=hst (.inl (by omega))
   (repeat' ((conv=>whnf);first|refine QB ?_|intro x hx hu|intro h|refine Spp.mk ?_ ?_))
   all_goals first|(exfalso;omega)|skip
   conv=>whnf
   exact⟨⟨[(8,.d (.fs 1 (vN l)))],(0,.cells 16 ((R.map D.bl).map .d))::Qn 1 [0] T,5⟩,Wk.vwL (ai (Vw.ts' rfl) trivial) (ai (VwO.same _) (ai (VwO.same _) (ai (VwO.same _) trivial))) (QEc ..),hres hth,(ai rfl trivial),(ai rfl (ai rfl trivial))⟩
 ·have hth:=hst (.inr hia)
  (repeat' ((conv=>whnf);first|refine QB ?_|intro x hx hu|intro h|refine Spp.mk ?_ ?_))
  all_goals first|(exfalso;omega)|skip
  conv=>whnf
  exact⟨⟨[(8,.d (.fs 1 (vN l)))],(0,.cells 16 ((R.map D.bl).map .d))::Qn 1 [0] T,5⟩,Wk.vwL (ai (Vw.ts' rfl) trivial) (ai (VwO.same _) (ai (VwO.same _) (ai (VwO.same _) trivial))) (QEc ..),hres hth,(ai rfl trivial),(ai rfl (ai rfl trivial))⟩
theorem QJc(R:List Bool)(hR:R.length=25)(low all n:Nat)(ha:all≤25)(hn:n≤1000)(hla:low≤all):
  FnH Tryz.prog 196 [.d (.it .i64 (low:Nat)),.d (.it .i64 (all:Nat)),.d (.it .i64 (n:Nat)),.fn (.func 200) [] [.ptr 0 0]] [(0,.cells 25 ((R.map D.bl).map .d))] 1 [0] (.d (.fs 1 (vN ((FL (fun j=>R.getD j false) low all).take n)))) [(0,.cells 25 ((R.map D.bl).map .d))] 1:=by
 have hs:=fun{i:Nat}=> @QCK (fun j=>R.getD j false) low i
 have ht:=fun{i:Nat}=> @QEb (fun j=>R.getD j false) low i all n
 have hfl:=QHQ (fun j=>R.getD j false) low
 have h0:FL (fun j=>R.getD j false) low low=[]:=by unfold FL;rw[jg];rfl
 generalize FL (fun j=>R.getD j false) low=F at*
 refine FnH.intro QA Tryz.func196 rfl Tryz.ntmps196 Tryz.call196 rfl (okC (by decide)) (okC (by decide)) (by decide) rfl rfl ntC rfl rfl (fun T=>?_)
 (repeat' ((conv=>whnf);first|refine QB ?_|intro x hx hu|intro h|refine Spp.mk ?_ ?_))
 conv=>whnf
 refine Qs QA (fun x:Nat×List Nat=>low≤x.1∧x.1≤all∧x.2=(F x.1).take n) (fun|(i,l)=>fiA 200 low all n 25 R T i l) (fun x=>all-x.1) (low,[]) ⟨zr _,hla,by rw[h0,ju]⟩ (Wk.en ⟨(ai rfl (ai rfl (ai rfl (ai rfl (ai rfl (ai rfl trivial)))))),(ai rfl (ai rfl (ai rfl (ai rfl trivial)))),QBN ..⟩) ?_
 intro⟨i,l⟩ hi0
 have hi1:=hi0.1
 have hi2:=hi0.2.1
 have hil:=hi0.2.2
 dsimp only at hi1 hi2 hil
 have hll:(vN l).length=l.length:=ze ..
 have hfi:=hfl i
 have hl2:l.length≤n∧l.length≤(F i).length:=by rw[hil,z2];omega
 have hst:n≤l.length∨¬i<all→l=(F all).take n:=fun h=>by
  rcases h with h|h
  ·rw [hil,ht hi1 hi2 (by omega)]
  ·rw [hil,show i=all by omega]
 have hgo:l.length<n→l=F i:=fun h=>by
  rw[hil,z2]at h
  rw[hil,yd (by omega)]
 have hsu:=hs hi1
 have hres:l=(F all).take n→AV.d (.fs 1 (vN l))=AV.d (.fs 1 (vN ((F all).take n))):=fun h=>by rw[h]
 by_cases hia:i<all
 ·obtain ⟨r,hr⟩:=ZD (l:=R) (k:=i) (by omega)
  have hrd:R.getD i false=r:=by rw[z1,hr];rfl
  rw[hrd]at hsu
  by_cases hln:l.length<n
  ·have hlF:=hgo hln
   cases r with
   |true=>
    rw[if_pos rfl,y7]at hsu
    (repeat' ((conv=>whnf);first|((with_reducible refine ZL ?_);refine AtA.eq (ldR hr rfl rfl) ?_)|refine CallE.inl ?_|with_reducible refine CallI.inl QA QPf rfl ?_|refine QB ?_|intro x hx hu|intro h|refine Spp.mk ?_ ?_))
    all_goals first|(exfalso;omega)|skip
    exact⟨(i+1,l),⟨by omega,hia,by rw[hsu,←hlF,yd (by omega)]⟩,by first|omega|(dsimp only;omega),Wk.en ⟨ai rfl (ai rfl (ai rfl (ai rfl (ai rfl (ai (QW (by omega)) trivial))))),(ai rfl (ai rfl (ai rfl (ai rfl trivial)))),QBN ..⟩⟩
   |false=>
    rw[if_neg (by simp)]at hsu
    (repeat' ((conv=>whnf);first|((with_reducible refine ZL ?_);refine AtA.eq (ldR hr rfl rfl) ?_)|refine CallE.inl ?_|with_reducible refine CallI.inl QA QPf rfl ?_|refine QB ?_|intro x hx hu|intro h|refine Spp.mk ?_ ?_))
    all_goals first|(exfalso;omega)|skip
    refine⟨(i+1,l++[i]),⟨by omega,hia,by rw[hsu,←hlF,yd (by rw[zt,xb];omega)]⟩,by first|omega|(dsimp only;omega),Wk.en ⟨ai rfl (ai rfl (ai rfl (ai rfl (ai (QIx ?_) (ai (QW (by omega)) trivial))))),ai (cells_eq rfl (QIV ..)) (ai rfl (ai rfl (ai rfl trivial))),QBN ..⟩⟩
    show _=vN (l++[i])
    unfold vN
    rw[yv];rfl
  ·have hth:=hst (.inl (by omega))
   (repeat' ((conv=>whnf);first|refine QB ?_|intro x hx hu|intro h|refine Spp.mk ?_ ?_))
   all_goals first|(exfalso;omega)|skip
   conv=>whnf
   exact⟨⟨[(8,.d (.fs 1 (vN l)))],(0,.cells 25 ((R.map D.bl).map .d))::Qn 1 [0] T,5⟩,Wk.vwL (ai (Vw.ts' rfl) trivial) (ai (VwO.same _) (ai (VwO.same _) (ai (VwO.same _) trivial))) (QEc ..),hres hth,(ai rfl trivial),(ai rfl (ai rfl trivial))⟩
 ·have hth:=hst (.inr hia)
  (repeat' ((conv=>whnf);first|refine QB ?_|intro x hx hu|intro h|refine Spp.mk ?_ ?_))
  all_goals first|(exfalso;omega)|skip
  conv=>whnf
  exact⟨⟨[(8,.d (.fs 1 (vN l)))],(0,.cells 25 ((R.map D.bl).map .d))::Qn 1 [0] T,5⟩,Wk.vwL (ai (Vw.ts' rfl) trivial) (ai (VwO.same _) (ai (VwO.same _) (ai (VwO.same _) trivial))) (QEc ..),hres hth,(ai rfl trivial),(ai rfl (ai rfl trivial))⟩
def fiS(f:Nat)(low all n:Nat)(E:D)(T:Nat→Nat)(i:Nat)(l:List Nat):S:=⟨[(0,.d (.it .i64 (low:Nat))),(1,.d (.it .i64 (all:Nat))),(2,.d (.it .i64 (n:Nat))),(3,.fn (.func f) [] [.ptr 0 0]),(9,.ts 1 (vN l) 4),(10,.d (.it .i64 (i:Nat)))],(0,.cells 1 [.d E])::(4,.tail 3 true)::Qn 1 [0] T,5⟩
theorem QJd(d:Option Dk)(hd:XI d)(low all n:Nat)(ha:all≤24)(hn:n≤1000)(hla:low≤all):
  FnH Tryz.prog 196 [.d (.it .i64 (low:Nat)),.d (.it .i64 (all:Nat)),.d (.it .i64 (n:Nat)),.fn (.func 198) [] [.ptr 0 0]] [(0,.cells 1 [.d (QS d)])] 1 [0] (.d (.fs 1 (vN ((FL (fun j:Nat=>(QK (rdS d) (j:Nat)).u) low all).take n)))) [(0,.cells 1 [.d (QS d)])] 1:=by
 have hs:=fun{i:Nat}=> @QCK (fun j:Nat=>(QK (rdS d) (j:Nat)).u) low i
 have ht:=fun{i:Nat}=> @QEb (fun j:Nat=>(QK (rdS d) (j:Nat)).u) low i all n
 have hfl:=QHQ (fun j:Nat=>(QK (rdS d) (j:Nat)).u) low
 have h0:FL (fun j:Nat=>(QK (rdS d) (j:Nat)).u) low low=[]:=by unfold FL;rw[jg];rfl
 generalize FL (fun j:Nat=>(QK (rdS d) (j:Nat)).u) low=F at*
 refine QR QRB fun T=>?_
 (repeat' ((conv=>whnf);first|refine QB ?_|intro x hx hu|intro h|refine Spp.mk ?_ ?_))
 conv=>whnf
 refine Qs QA (fun x:Nat×List Nat=>low≤x.1∧x.1≤all∧x.2=(F x.1).take n) (fun|(i,l)=>fiS 198 low all n (QS d) T i l) (fun x=>all-x.1) (low,[]) ⟨zr _,hla,by rw[h0,ju]⟩ Wk.e ?_
 intro⟨i,l⟩ hi0
 have hi1:=hi0.1
 have hi2:=hi0.2.1
 have hil:=hi0.2.2
 dsimp only at hi1 hi2 hil
 have hll:(vN l).length=l.length:=ze ..
 have hfi:=hfl i
 have hl2:l.length≤n∧l.length≤(F i).length:=by rw[hil,z2];omega
 have hst:n≤l.length∨¬i<all→l=(F all).take n:=fun h=>by
  rcases h with h|h
  ·rw [hil,ht hi1 hi2 (by omega)]
  ·rw [hil,show i=all by omega]
 have hgo:l.length<n→l=F i:=fun h=>by
  rw[hil,z2]at h
  rw[hil,yd (by omega)]
 have hsu:=hs hi1
 have hres:l=(F all).take n→AV.d (.fs 1 (vN l))=AV.d (.fs 1 (vN ((F all).take n))):=fun h=>by rw[h]
 by_cases hia:i<all
 ·have he:=Xf d hd (i:Nat)
  generalize QK (rdS d) (i:Nat)=x at*
  obtain⟨r,xp,xn,xt⟩:=x
  dsimp only at*
  replace he:FnC Tryz.prog 113 [.d (QS d),.d (.it .i64 (i:Nat))] (.dg 4 [.bl r,.it .i64 xp,.st xn,.it .i64 xt]):=he
  by_cases hln:l.length<n
  ·have hlF:=hgo hln
   cases r with
   |true=>
    rw[if_pos rfl,y7]at hsu
    (repeat' ((conv=>whnf);first|refine cEk he ?_|refine CallE.inl ?_|with_reducible refine CallI.inl QA QPe rfl ?_|refine QB ?_|intro x hx hu|intro h|refine Spp.mk ?_ ?_))
    all_goals first|(exfalso;omega)|skip
    exact⟨(i+1,l),⟨by omega,hia,by rw[hsu,←hlF,yd (by omega)]⟩,by first|omega|(dsimp only;omega),Wk.en ⟨ai rfl (ai rfl (ai rfl (ai rfl (ai rfl (ai (QW (by omega)) trivial))))),(ai rfl (ai rfl (ai rfl (ai rfl trivial)))),rfl⟩⟩
   |false=>
    rw[if_neg (by simp)]at hsu
    (repeat' ((conv=>whnf);first|refine cEk he ?_|refine CallE.inl ?_|with_reducible refine CallI.inl QA QPe rfl ?_|refine QB ?_|intro x hx hu|intro h|refine Spp.mk ?_ ?_))
    all_goals first|(exfalso;omega)|skip
    refine⟨(i+1,l++[i]),⟨by omega,hia,by rw[hsu,←hlF,yd (by rw[zt,xb];omega)]⟩,by first|omega|(dsimp only;omega),Wk.en ⟨ai rfl (ai rfl (ai rfl (ai rfl (ai (QIx ?_) (ai (QW (by omega)) trivial))))),(ai rfl (ai rfl (ai rfl (ai rfl trivial)))),rfl⟩⟩
    show _=vN (l++[i])
    unfold vN
    rw[yv];rfl
  ·have hth:=hst (.inl (by omega))
   (repeat' ((conv=>whnf);first|refine QB ?_|intro x hx hu|intro h|refine Spp.mk ?_ ?_))
   all_goals first|(exfalso;omega)|skip
   conv=>whnf
   exact⟨⟨[(8,.d (.fs 1 (vN l)))],(0,.cells 1 [.d (QS d)])::Qn 1 [0] T,5⟩,Wk.vwL (ai (Vw.ts' rfl) trivial) (ai (VwO.same _) (ai (VwO.same _) (ai (VwO.same _) trivial))) (rfl),hres hth,(ai rfl trivial),(ai rfl (ai rfl trivial))⟩
 ·have hth:=hst (.inr hia)
  (repeat' ((conv=>whnf);first|refine QB ?_|intro x hx hu|intro h|refine Spp.mk ?_ ?_))
  all_goals first|(exfalso;omega)|skip
  conv=>whnf
  exact⟨⟨[(8,.d (.fs 1 (vN l)))],(0,.cells 1 [.d (QS d)])::Qn 1 [0] T,5⟩,Wk.vwL (ai (Vw.ts' rfl) trivial) (ai (VwO.same _) (ai (VwO.same _) (ai (VwO.same _) trivial))) (rfl),hres hth,(ai rfl trivial),(ai rfl (ai rfl trivial))⟩
theorem QEd(φ:Nat→Nat)(l:List D):(l.map AV.d).map (AV.ren1 φ)=l.map AV.d:=by rw[uo];rfl
theorem QFy(n:Nat):List.range' 0 n=List.range n:=List.range_eq_range'.symm
theorem QAH{α:Type}{p q:α→Bool}:∀ {l:List α},(∀x∈l,p x=q x)→l.find? p=l.find? q
 |[],_=>rfl
 |x::t,h=>by
  rw[qp,qp,h x zo,QAH fun y hy=>h y (zk _ hy)]
theorem QOR(f:Int→List UInt8):frI f=(FL (fun j=>(iR f 24).getD j false) 0 16).head? :=by
 unfold FL frI
 rw[List.head?_filter,jh,QFy]
 refine QAH fun j hj=>?_
 have h16:=xd.1 hj
 have e:(iR f 24).getD j false=decide (JH f (j:Nat)):=by
  rw[QK2,z1,yy,jl h16];rfl
 show decide (¬JH f (j:Nat))= !((iR f 24).getD j false)
 rw[e]
 show decide (¬JH f (j:Nat))= !(decide (JH f (j:Nat)))
 by_cases h:JH f (j:Nat)
 ·rw [decide_eq_true h,decide_eq_false (fun x=>x h)];rfl
 ·rw [decide_eq_false h,decide_eq_true h];rfl
theorem QOS(f:Int→List UInt8):frE f=(FL (fun j:Nat=>(QK f (j:Nat)).u) 0 24).head? :=by
 unfold FL frE
 rw[List.head?_filter,jh,QFy]
 refine QAH fun j hj=>?_
 show decide ((QK f (j:Nat)).u=false)= !((QK f (j:Nat)).u)
 cases (QK f (j:Nat)).u<;>rfl
theorem QMn(d:Dk)(hd:XI (some d)):FnC Tryz.prog 156 [.d (QS (some d))] (QCc (frI (rdS (some d)))):=by
 have hi:=QDn (some d) hd
 have hF:=QJb (iR (rdS (some d)) 24) (QCl _ _) 0 16 1 (by decide) (by decide) (by decide)
 rw[QOR]
 generalize FL (fun j=>(iR (rdS (some d)) 24).getD j false) 0 16=l at*
 generalize iR (rdS (some d)) 24=J at*
 generalize QS (some d)=E at*
 cases l with
 |nil=>
  replace hF:FnH Tryz.prog 196 [.d (.it .i64 0),.d (.it .i64 16),.d (.it .i64 1),.fn (.func 197) [] [.ptr 0 0]] [(0,.cells 16 ((J.map D.bl).map .d))] 1 [0] (.d (.fs 1 [])) [(0,.cells 16 ((J.map D.bl).map .d))] 1:=hF
  refine QL QPV ?_
  (repeat' ((conv=>whnf);first|refine cEk hi ?_|refine CallE.inl ?_|refine CallI.byH hF [0] (by with_unfolding_all exact rfl) ⟨rfl,by decide,by with_unfolding_all exact rfl⟩ (ai (cells_eq rfl (by show []++_++[]=_;rw[y3,y7];exact(QEd _ _).symm)) trivial) rfl rfl ?_|with_reducible refine CallI.inl QA QML rfl ?_|refine QB ?_|intro x hx hu|intro h|refine Spp.mk ?_ ?_))
  rfl
 |cons n t=>
  replace hF:FnH Tryz.prog 196 [.d (.it .i64 0),.d (.it .i64 16),.d (.it .i64 1),.fn (.func 197) [] [.ptr 0 0]] [(0,.cells 16 ((J.map D.bl).map .d))] 1 [0] (.d (.fs 1 [[.it .i64 (n:Nat)]])) [(0,.cells 16 ((J.map D.bl).map .d))] 1:=hF
  refine QL QPV ?_
  (repeat' ((conv=>whnf);first|refine cEk hi ?_|refine CallE.inl ?_|refine CallI.byH hF [0] (by with_unfolding_all exact rfl) ⟨rfl,by decide,by with_unfolding_all exact rfl⟩ (ai (cells_eq rfl (by show []++_++[]=_;rw[y3,y7];exact(QEd _ _).symm)) trivial) rfl rfl ?_|with_reducible refine CallI.inl QA QML rfl ?_|refine QB ?_|intro x hx hu|intro h|refine Spp.mk ?_ ?_))
  rfl
theorem QFz(d:Dk)(hd:XI (some d)):FnC Tryz.prog 157 [.d (QS (some d))] (QCc (frE (rdS (some d)))):=by
 have hF:=QJd (some d) hd 0 24 1 (by decide) (by decide) (by decide)
 rw[QOS]
 generalize FL (fun j:Nat=>(QK (rdS (some d)) (j:Nat)).u) 0 24=l at*
 generalize QS (some d)=E at*
 cases l with
 |nil=>
  replace hF:FnH Tryz.prog 196 [.d (.it .i64 0),.d (.it .i64 24),.d (.it .i64 1),.fn (.func 198) [] [.ptr 0 0]] [(0,.cells 1 [.d E])] 1 [0] (.d (.fs 1 [])) [(0,.cells 1 [.d E])] 1:=hF
  refine QL QPW ?_
  (repeat' ((conv=>whnf);first|refine CallE.inl ?_|refine CallI.h hF [0] ?_|with_reducible refine CallI.inl QA QML rfl ?_|refine QB ?_|intro x hx hu|intro h|refine Spp.mk ?_ ?_))
  rfl
 |cons n t=>
  replace hF:FnH Tryz.prog 196 [.d (.it .i64 0),.d (.it .i64 24),.d (.it .i64 1),.fn (.func 198) [] [.ptr 0 0]] [(0,.cells 1 [.d E])] 1 [0] (.d (.fs 1 [[.it .i64 (n:Nat)]])) [(0,.cells 1 [.d E])] 1:=hF
  refine QL QPW ?_
  (repeat' ((conv=>whnf);first|refine CallE.inl ?_|refine CallI.h hF [0] ?_|with_reducible refine CallI.inl QA QML rfl ?_|refine QB ?_|intro x hx hu|intro h|refine Spp.mk ?_ ?_))
  rfl
theorem Zd{bad:List Int}{d:Dk}{e:Int}(h:e≠0):runP bad d (e,[])=(d,e):=if_pos h
theorem JE(bad:List Int)(d:Dk)(l:List Stp):runP bad d (0,l)=Ym bad d l:=if_neg (by simp)
theorem QK4{f:Int→List UInt8}{n:Nat}(h:frI f=some n):n<16:=by
 have:=ub h
 exact xd.1 this
theorem QEe{f:Int→List UInt8}{n:Nat}(h:frE f=some n):n<24:=by
 have:=ub h
 exact xd.1 this
theorem QIW{b:Bool}{bad:List Int}{d:Dk}{N:Nat}(h:Fd bad d N)(p:List UInt8)(hp:p.length≤100000)(kind:Int):
  FnH Tryz.prog 102 [.ptr 5 0,.d (.st p),.d (.it .i64 kind)] (QZ b bad d) 6 [0,5] (.d (.it .i64 (runP bad d (mkP (rdS (some d)) p kind)).2)) (QZ b bad (runP bad d (mkP (rdS (some d)) p kind)).1) 6:=by
 have hP:=QCj d h.ok p hp
 have hI:=QMn d h.ok
 have hK:=QFz d h.ok
 have hfi:=fun n=>QK4 (f:=rdS (some d)) (n:=n)
 have hfe:=fun n=>QEe (f:=rdS (some d)) (n:=n)
 unfold mkP mkQ
 generalize Zw (rdS (some d)) p=a at*
 generalize frI (rdS (some d))=oi at*
 generalize frE (rdS (some d))=oe at*
 obtain⟨⟨fo,nm,k⟩,e⟩:=a
 have hS:=YZ ⟨fo,nm,k⟩
 dsimp only
 replace hP:FnC Tryz.prog 144 [.d (.fp 1 [QS (some d)]),.d (.st p)] (.tup [.dg 3 [.it .i64 fo,.st nm,.it .i64 k],.d (.it .i64 e)]):=hP
 replace hS:FnC Tryz.prog 146 [.dg 3 [.it .i64 fo,.st nm,.it .i64 k]] (.d (.bl (decide (0≤k)))):=hS
 by_cases c1:e=0
 ·subst c1
  rw[if_neg (by simp)]
  by_cases c2:0≤k
  ·rw [if_pos c2,Zd (by decide)]
   rw[decide_eq_true c2]at hS
   refine QR QJF fun T=>?_
   (repeat' ((conv=>whnf);first|refine cEk hS ?_|refine CallE.inl ?_|with_reducible refine CallI.inl QA i50 rfl ?_|refine rFk hP ?_|refine QB ?_|intro x hx hu|intro h|refine Spp.mk ?_ ?_))
   exact QJ
  ·rw [if_neg c2]
   rw[decide_eq_false c2]at hS
   cases oi with
   |none=>
    show FnH _ _ _ _ _ _ (.d (.it .i64 (runP bad d (2,[])).2)) (QZ b bad (runP bad d (2,[])).1) _
    rw[Zd (by decide)]
    replace hI:FnC Tryz.prog 156 [.d (QS (some d))] (.tup [.d (.it .i64 0),.d (.bl false)]):=hI
    cases oe with
    |none=>
     replace hK:FnC Tryz.prog 157 [.d (QS (some d))] (.tup [.d (.it .i64 0),.d (.bl false)]):=hK
     refine QR QJF fun T=>?_
     (repeat' ((conv=>whnf);first|refine cEk hS ?_|refine CallE.inl ?_|with_reducible refine CallI.inl QA i50 rfl ?_|refine rFk hP ?_|refine rFk hI ?_|refine rFk hK ?_|refine QB ?_|intro x hx hu|intro h|refine Spp.mk ?_ ?_))
     exact QJ
    |some k=>
     replace hK:FnC Tryz.prog 157 [.d (QS (some d))] (.tup [.d (.it .i64 (k:Nat)),.d (.bl true)]):=hK
     refine QR QJF fun T=>?_
     (repeat' ((conv=>whnf);first|refine cEk hS ?_|refine CallE.inl ?_|with_reducible refine CallI.inl QA i50 rfl ?_|refine rFk hP ?_|refine rFk hI ?_|refine rFk hK ?_|refine QB ?_|intro x hx hu|intro h|refine Spp.mk ?_ ?_))
     exact QJ
   |some n=>
    replace hI:FnC Tryz.prog 156 [.d (QS (some d))] (.tup [.d (.it .i64 (n:Nat)),.d (.bl true)]):=hI
    cases oe with
    |none=>
     replace hK:FnC Tryz.prog 157 [.d (QS (some d))] (.tup [.d (.it .i64 0),.d (.bl false)]):=hK
     show FnH _ _ _ _ _ _ (.d (.it .i64 (runP bad d (2,[])).2)) (QZ b bad (runP bad d (2,[])).1) _
     rw[Zd (by decide)]
     refine QR QJF fun T=>?_
     (repeat' ((conv=>whnf);first|refine cEk hS ?_|refine CallE.inl ?_|with_reducible refine CallI.inl QA i50 rfl ?_|refine rFk hP ?_|refine rFk hI ?_|refine rFk hK ?_|refine QB ?_|intro x hx hu|intro h|refine Spp.mk ?_ ?_))
     exact QJ
    |some q=>
     replace hK:FnC Tryz.prog 157 [.d (QS (some d))] (.tup [.d (.it .i64 (q:Nat)),.d (.bl true)]):=hK
     have hn:=hfi n rfl
     have hq:=hfe q rfl
     dsimp only
     rw[JE]
     have g1:=QEY [] (by simp) (n:Nat) (by omega) ⟨kind,0,0,0,0,0⟩ 2 (n:Nat)
     have g2:=Ji [.wr ⟨1+(n:Nat),Y1 ⟨kind,0,0,0,0,0⟩,2,(n:Nat),0⟩] (by simp) (q:Nat) (by omega) ⟨true,fo,nm,(n:Nat)⟩ fo
     have g3:=QCf (b:=b) h [.wr ⟨1+(n:Nat),Y1 ⟨kind,0,0,0,0,0⟩,2,(n:Nat),0⟩,.wr ⟨17+(q:Nat),Z7 ⟨true,fo,nm,(n:Nat)⟩,3,fo,0⟩] (fun s hs=>by
      simp only[zi,y6,or_false]at hs
      rcases hs with rfl|rfl
      ·exact ⟨QAg _,by show(0:Int)≤1+_;omega,by show(1:Int)+_<_;omega⟩
      ·exact ⟨QAh _,by show(0:Int)≤17+_;omega,by show(17:Int)+_<_;omega⟩) (by simp)
     generalize hw1:(⟨1+(n:Nat),Y1 ⟨kind,0,0,0,0,0⟩,2,(n:Nat),0⟩:Wr)=w1 at*
     generalize hw2:(⟨17+(q:Nat),Z7 ⟨true,fo,nm,(n:Nat)⟩,3,fo,0⟩:Wr)=w2 at*
     rw[y3]at g1
     refine QR QJF fun T=>?_
     (repeat' ((conv=>whnf);first|refine cEk hS ?_|refine CallE.inl ?_|with_reducible refine CallI.inl QA i50 rfl ?_|refine rFk hP ?_|refine rFk hI ?_|refine rFk hK ?_|refine CallI.h g2 [12,13] ?_|refine CallI.hp g3 [0,1,2,3,4,5] ?_|((refine CallI.wk (Wk.nlTs 12 0 1 37 243 (by with_unfolding_all exact rfl) (by with_unfolding_all exact rfl)) ⟨_,_,_,_,_,_,rfl,rfl,rfl,rfl⟩ ?_);refine CallI.h g1 [12,13] ?_)|refine QB ?_|intro x hx hu|intro h|refine Spp.mk ?_ ?_))
     exact QJ
 ·rw [if_pos c1,Zd c1]
  refine QR QJF fun T=>?_
  (repeat' ((conv=>whnf);first|refine cEk hS ?_|refine CallE.inl ?_|with_reducible refine CallI.inl QA i50 rfl ?_|refine rFk hP ?_|refine QB ?_|intro x hx hu|intro h|refine Spp.mk ?_ ?_))
  exact QJ
theorem QK5:J1 Yk=[.bl false,.it .i64 0,.st [],.it .i64 0]:=rfl
theorem QDo{f:Int→List UInt8}{p:List UInt8}: -1≤(Zw f p).1.k∧(Zw f p).1.k<24:=by
 unfold Zw QOJ
 split
 ·exact ⟨(by decide:(-1:Int)≤0),(by decide:(0:Int)<24)⟩
 ·split
  ·exact ⟨(by decide:(-1:Int)≤0),(by decide:(0:Int)<24)⟩
  ·split
   ·exact ⟨(by decide:(-1:Int)≤0),(by decide:(0:Int)<24)⟩
   ·show-1≤QOI _∧QOI _<24
    cases h:JQ f (Qa f (XJ p).1).1 (XJ p).2.1 with
    |none=>exact⟨by decide,by decide⟩
    |some k=>
     have:=xd.1 (ub h)
     exact⟨by show-1≤(k:Int);omega,by show(k:Int)<24;omega⟩
theorem QK6{x:Ino}(h:RI x):0≤x.z∧x.z≤128:=by
 rcases h with h|h
 ·omega
 ·omega
theorem QAl(k:Int)(hk:0≤k∧k<24)(x:Ent)(f:Int):QFs (.wr ⟨17+k,Z7 x,3,f,0⟩):=⟨QAh x,(by omega:0≤17+k),(by omega:17+k<65)⟩
theorem QF0(n:Int)(hn:0≤n∧n<16)(x:Ino)(k i:Int):QFs (.wr ⟨1+n,Y1 x,k,i,0⟩):=⟨QAg x,(by omega:0≤1+n),(by omega:1+n<65)⟩
theorem QCm(f:Int→List UInt8)(p:List UInt8):0≤(Y2 f p).1∧(Y2 f p).1<16:=by
 unfold Y2
 split
 ·exact ⟨(by decide:(0:Int)≤0),(by decide:(0:Int)<16)⟩
 ·split
  ·exact ⟨(by decide:(0:Int)≤0),(by decide:(0:Int)<16)⟩
  ·rename_i h
   dsimp only
   have h:(Qy f (Qa f p).1).k=1:=uv h
   unfold Qy at h
   split at h
   ·assumption
   ·exact absurd h (by decide)
theorem QJe{b:Bool}{bad:List Int}{d:Dk}{N:Nat}(h:Fd bad d N)(p:List UInt8)(hp:p.length≤100000):
  FnH Tryz.prog 73 [.ptr 5 0,.d (.st p)] (QZ b bad d) 6 [0,5] (.d (.it .i64 (runP bad d (QHM (rdS (some d)) p)).2)) (QZ b bad (runP bad d (QHM (rdS (some d)) p)).1) 6:=by
 have hP:=QKz d h.ok p hp
 have hk:=QDo (f:=rdS (some d)) (p:=p)
 have hE:=Xf (some d) h.ok (Zw (rdS (some d)) p).1.k
 have hK:=QAk d h.ok (QK (rdS (some d)) (Zw (rdS (some d)) p).1.k).t
 have hL:=QMa (some d) h.ok (QK (rdS (some d)) (Zw (rdS (some d)) p).1.k).t
 unfold QHM QOM
 generalize Zw (rdS (some d)) p=a at*
 generalize hn:nms (rdS (some d)) (QK (rdS (some d)) a.1.k).t=ns at*
 generalize QK (rdS (some d)) a.1.k=x at*
 generalize (Qy (rdS (some d)) x.t).k=kk at*
 obtain⟨⟨fo,nm,k⟩,e⟩:=a
 obtain⟨xu,xp,xn,xt⟩:=x
 dsimp only at*
 replace hE:FnC Tryz.prog 113 [.d (QS (some d)),.d (.it .i64 k)] (.dg 4 [.bl xu,.it .i64 xp,.st xn,.it .i64 xt]):=hE
 by_cases c1:e=0
 ·subst c1
  rw[if_neg (by simp)]
  by_cases c2:k<0
  ·rw [if_pos c2,Zd (by decide)]
   have hP:FnC Tryz.prog 126 [.d (.fp 1 [QS (some d)]),.d (.st p)] (.tup [.dg 3 [.it .i64 fo,.st nm,.it .i64 k],.d (.it .i64 4)]):=by
    have:=hP
    unfold QJa at this
    rw[if_pos ⟨rfl,c2⟩]at this
    exact this
   refine QR i73 fun T=>?_
   (repeat' ((conv=>whnf);first|with_reducible refine CallI.inl QA i50 rfl ?_|refine rFk hP ?_|refine QB ?_|intro x hx hu|intro h|refine Spp.mk ?_ ?_))
   exact QJ
  ·rw [if_neg c2]
   have hP:FnC Tryz.prog 126 [.d (.fp 1 [QS (some d)]),.d (.st p)] (.tup [.dg 3 [.it .i64 fo,.st nm,.it .i64 k],.d (.it .i64 0)]):=by
    have:=hP
    unfold QJa at this
    rw[if_neg (fun x=>c2 x.2)]at this
    exact this
   have g2:=Ji [] (by simp) k (by omega) Yk fo
   have g3:=QCf (b:=b) h [.wr ⟨17+k,Z7 Yk,3,fo,0⟩] (fun s hs=>by
    simp only[zi,y6,or_false]at hs
    rw[hs]
    exact QAl k (by omega) _ _) (by simp)
   rw[QK5]at g2
   generalize (⟨17+k,Z7 Yk,3,fo,0⟩:Wr)=w1 at*
   rw[y3]at g2
   by_cases c3:kk=2
   ·subst c3
    cases ns with
    |nil=>
     rw[if_neg (by simp),JE]
     replace hL:FnC Tryz.prog 128 [.d (QS (some d)),.d (.it .i64 xt)] (.d (.fs 1 [])):=hL
     refine QR i73 fun T=>?_
     (repeat' ((conv=>whnf);first|with_reducible refine CallI.inl QA i50 rfl ?_|refine rFk hP ?_|refine rFk hE ?_|refine rFk hK ?_|refine CallI.byRL (ArF.fr _ _ _ _ (frD (by with_unfolding_all exact rfl) (by with_unfolding_all exact rfl)) (ArF.pl _ _ _ _ rfl .nil)) hL (fun h0=>?_) (fun off cap hpos=>absurd hpos (by decide))|refine CallI.hp g3 [0,1,2,3,4,5] ?_|((refine CallI.wk (Wk.nlTs 12 0 1 37 243 (by with_unfolding_all exact rfl) (by with_unfolding_all exact rfl)) ⟨_,_,_,_,_,_,rfl,rfl,rfl,rfl⟩ ?_);refine CallI.h g2 [12,13] ?_)|refine QB ?_|intro x hx hu|intro h|refine Spp.mk ?_ ?_))
     exact QJ
    |cons n0 nt=>
     rw[if_pos ⟨rfl,by simp⟩,Zd (by decide)]
     refine QR i73 fun T=>?_
     (repeat' ((conv=>whnf);first|with_reducible refine CallI.inl QA i50 rfl ?_|refine rFk hP ?_|refine rFk hE ?_|refine rFk hK ?_|refine CallI.byRL (ArF.fr _ _ _ _ (frD (by with_unfolding_all exact rfl) (by with_unfolding_all exact rfl)) (ArF.pl _ _ _ _ rfl .nil)) hL (fun h0=>by cases h0) (fun off cap hpos=>?_)|refine QB ?_|intro x hx hu|intro h|refine Spp.mk ?_ ?_))
     exact QJ
   ·rw [if_neg (by simp[c3]),JE]
    refine QR i73 fun T=>?_
    (repeat' ((conv=>whnf);first|with_reducible refine CallI.inl QA i50 rfl ?_|refine rFk hP ?_|refine rFk hE ?_|refine rFk hK ?_|refine CallI.hp g3 [0,1,2,3,4,5] ?_|((refine CallI.wk (Wk.nlTs 12 0 1 37 243 (by with_unfolding_all exact rfl) (by with_unfolding_all exact rfl)) ⟨_,_,_,_,_,_,rfl,rfl,rfl,rfl⟩ ?_);refine CallI.h g2 [12,13] ?_)|refine QB ?_|intro x hx hu|intro h|refine Spp.mk ?_ ?_))
    exact QJ
 ·rw [if_pos c1,Zd c1]
  have hP:FnC Tryz.prog 126 [.d (.fp 1 [QS (some d)]),.d (.st p)] (.tup [.dg 3 [.it .i64 fo,.st nm,.it .i64 k],.d (.it .i64 e)]):=by
   have:=hP
   unfold QJa at this
   rw[if_neg (fun x=>c1 x.1)]at this
   exact this
  refine QR i73 fun T=>?_
  (repeat' ((conv=>whnf);first|with_reducible refine CallI.inl QA i50 rfl ?_|refine rFk hP ?_|refine QB ?_|intro x hx hu|intro h|refine Spp.mk ?_ ?_))
  exact QJ
theorem QK7{b:Bool}{bad:List Int}{d:Dk}{N:Nat}(h:Fd bad d N)(p:List UInt8)(hp:p.length≤100000)(tq:Int):
  FnH Tryz.prog 90 [.ptr 5 0,.d (.st p),.d (.it .i64 tq)] (QZ b bad d) 6 [0,5] (.d (.it .i64 (runP bad d (QHJ (rdS (some d)) p tq)).2)) (QZ b bad (runP bad d (QHJ (rdS (some d)) p tq)).1) 6:=by
 have hP:=QCk d h.ok p hp
 have hn:=QCm (rdS (some d)) p
 have hz:=QK6 (QCJ (rdS (some d)) p)
 unfold QHJ QOK
 generalize Y2 (rdS (some d)) p=q at*
 obtain⟨n,⟨k,z,b0,b1,b2,b3⟩,e⟩:=q
 dsimp only at*
 replace hP:FnC Tryz.prog 103 [.d (.fp 1 [QS (some d)]),.d (.st p)] (.tup [.d (.it .i64 n),.dg 6 [.it .i64 k,.it .i64 z,.it .i64 b0,.it .i64 b1,.it .i64 b2,.it .i64 b3],.d (.it .i64 e)]):=hP
 by_cases c1:e=0
 ·subst c1
  rw[if_neg (by simp)]
  by_cases c2:tq<0∨z<tq
  ·rw [if_pos c2,Zd (by decide)]
   refine QR i90 fun T=>?_
   (repeat' ((conv=>whnf);first|refine rFk hP ?_|refine QB ?_|intro x hx hu|intro h|refine Spp.mk ?_ ?_))
   all_goals first|(exfalso;omega)|skip
   all_goals exact QJ
  ·rw [if_neg c2]
   by_cases c3:tq=z
   ·subst c3
    rw[if_pos rfl,JE]
    refine QR i90 fun T=>?_
    (repeat' ((conv=>whnf);first|refine rFk hP ?_|refine QB ?_|intro x hx hu|intro h|refine Spp.mk ?_ ?_))
    all_goals first|(exfalso;omega)|skip
    all_goals exact QJ
   ·rw [if_neg c3,JE]
    have g3:=QCf (b:=b) h [.wr ⟨1+n,Y1 (trI ⟨k,z,b0,b1,b2,b3⟩ tq),2,n,0⟩] (fun s hs=>by
     simp only[zi,y6,or_false]at hs
     rw[hs]
     exact QF0 n (by omega) _ _ _) (by simp)
    have g2:=QEY [] (by simp) n (by omega) (trI ⟨k,z,b0,b1,b2,b3⟩ tq) 2 n
    have hnd:=Yp tq (by omega)
    generalize (⟨1+n,Y1 (trI ⟨k,z,b0,b1,b2,b3⟩ tq),2,n,0⟩:Wr)=w1 at*
    rw[y3]at g2
    have c4:(tq+31)/32=0∨(tq+31)/32=1∨(tq+31)/32=2∨(tq+31)/32=3∨(tq+31)/32=4:=by omega
    rcases c4 with c4|c4|c4|c4|c4
    all_goals (
     rw[c4]at hnd
     unfold trI nd at g2
     rw[c4]at g2
     refine QR i90 fun T=>?_
     (repeat' ((conv=>whnf);first|refine cEk hnd ?_|refine CallE.inl ?_|((with_reducible refine Q8 ?_);refine OpX.clearM QA rfl rfl rfl (by with_unfolding_all exact rfl) rfl (by with_unfolding_all exact rfl) rfl rfl (by with_unfolding_all exact rfl) (by with_unfolding_all exact rfl) (by decide) (by decide) ?_)|refine rFk hP ?_|refine CallI.hp g3 [0,1,2,3,4,5] ?_|((refine CallI.wk (Wk.nlTs 11 0 1 37 243 (by with_unfolding_all exact rfl) (by with_unfolding_all exact rfl)) ⟨_,_,_,_,_,_,rfl,rfl,rfl,rfl⟩ ?_);refine CallI.h g2 [11,12] ?_)|refine QB ?_|intro x hx hu|intro h|refine Spp.mk ?_ ?_))
     all_goals first|(exfalso;omega)|skip
     all_goals exact QJ)
 ·rw [if_pos c1,Zd c1]
  refine QR i90 fun T=>?_
  (repeat' ((conv=>whnf);first|refine rFk hP ?_|refine QB ?_|intro x hx hu|intro h|refine Spp.mk ?_ ?_))
  all_goals first|(exfalso;omega)|skip
  all_goals exact QJ
theorem QMo{b:Bool}{bad:List Int}{d:Dk}{N:Nat}(h:Fd bad d N)(a c:Plc)(x:Ent)(ha:0≤a.k∧a.k<24)(hc: -1≤c.k∧c.k<24):
  FnH Tryz.prog 147 [.ptr 5 0,.dg 3 (QIU a),.dg 3 (QIU c),.dg 4 (J1 x)] (QZ b bad d) 6 [0,5] (.d (.it .i64 (runP bad d (QJU (rdS (some d)) a c x)).2)) (QZ b bad (runP bad d (QJU (rdS (some d)) a c x)).1) 6:=by
 have hK:=QFz d h.ok
 have hfe:=fun n=>QEe (f:=rdS (some d)) (n:=n)
 unfold QJU
 generalize frE (rdS (some d))=oe at*
 have hS:=YZ c
 have g1:=Ji [] (by simp) a.k (by omega) x c.fo
 have g2:=fun(k:Int) (hk:0≤k∧k<24)=>Ji [] (by simp) k (by omega) x c.fo
 obtain⟨af,an,ak⟩:=a
 obtain⟨cf,cn,ck⟩:=c
 obtain⟨xu,xp,xn,xt⟩:=x
 dsimp only at*
 replace hS:FnC Tryz.prog 146 [.dg 3 [.it .i64 cf,.st cn,.it .i64 ck]] (.d (.bl (decide (0≤ck)))):=hS
 show FnH _ _ [.ptr 5 0,.dg 3 [.it .i64 af,.st an,.it .i64 ak],.dg 3 [.it .i64 cf,.st cn,.it .i64 ck],.dg 4 [.bl xu,.it .i64 xp,.st xn,.it .i64 xt]] _ _ _ _ _ _
 have go3:∀k:Int,0≤k∧k<24→FnH Tryz.prog 130 [.ptr 5 0,.d (.fs 37 [YY (.wr ⟨17+k,Z7 ⟨xu,xp,xn,xt⟩,3,cf,0⟩),YY .bar,YY (.wr ⟨17+ak,Z7 Yk,3,af,0⟩)])] (QZ b bad d) 6 [0,5] (.d (.it .i64 (Ym bad d [.wr ⟨17+k,Z7 ⟨xu,xp,xn,xt⟩,3,cf,0⟩,.bar,.wr ⟨17+ak,Z7 Yk,3,af,0⟩]).2)) (QZ b bad (Ym bad d [.wr ⟨17+k,Z7 ⟨xu,xp,xn,xt⟩,3,cf,0⟩,.bar,.wr ⟨17+ak,Z7 Yk,3,af,0⟩]).1) 6:=fun k hk=>
  QCf (b:=b) h [.wr ⟨17+k,Z7 ⟨xu,xp,xn,xt⟩,3,cf,0⟩,.bar,.wr ⟨17+ak,Z7 Yk,3,af,0⟩] (fun s hs=>by
   simp only[zi,y6,or_false]at hs
   rcases hs with rfl|rfl|rfl
   ·exact QAl k hk _ _
   ·trivial
   ·exact QAl ak ha _ _) (by simp)
 by_cases c1:ck<0
 ·rw [decide_eq_false (by omega)]at hS
  by_cases c2:af=cf
  ·subst c2
   rw[if_pos ⟨c1,rfl⟩,JE]
   have g3:=QCf (b:=b) h [.wr ⟨17+ak,Z7 ⟨xu,xp,xn,xt⟩,3,af,0⟩] (fun s hs=>by
    simp only[zi,y6,or_false]at hs
    rw[hs]
    exact QAl ak ha _ _) (by simp)
   generalize (⟨17+ak,Z7 ⟨xu,xp,xn,xt⟩,3,af,0⟩:Wr)=w1 at*
   rw[y3]at g1
   refine QR QMJ fun T=>?_
   (repeat' ((conv=>whnf);first|refine cEk hS ?_|refine CallE.inl ?_|refine CallI.hp g3 [0,1,2,3,4,5] ?_|((refine CallI.wk (Wk.nlTs 12 0 1 37 243 (by with_unfolding_all exact rfl) (by with_unfolding_all exact rfl)) ⟨_,_,_,_,_,_,rfl,rfl,rfl,rfl⟩ ?_);refine CallI.h g1 [12,13] ?_)|refine QB ?_|intro x hx hu|intro h|refine Spp.mk ?_ ?_))
   exact QJ
  ·rw [if_neg (fun x=>c2 x.2),if_pos c1]
   cases oe with
   |none=>
    replace hK:FnC Tryz.prog 157 [.d (QS (some d))] (.tup [.d (.it .i64 0),.d (.bl false)]):=hK
    dsimp only
    rw[Zd (by decide)]
    refine QR QMJ fun T=>?_
    (repeat' ((conv=>whnf);first|refine cEk hS ?_|refine CallE.inl ?_|refine rFk hK ?_|refine QB ?_|intro x hx hu|intro h|refine Spp.mk ?_ ?_))
    exact QJ
   |some q=>
    replace hK:FnC Tryz.prog 157 [.d (QS (some d))] (.tup [.d (.it .i64 (q:Nat)),.d (.bl true)]):=hK
    have hq:=hfe q rfl
    dsimp only
    rw[JE]
    have g3:=go3 (q:Nat) ⟨by omega,by omega⟩
    have g2:=g2 (q:Nat) ⟨by omega,by omega⟩
    generalize (⟨17+(q:Nat),Z7 ⟨xu,xp,xn,xt⟩,3,cf,0⟩:Wr)=w1 at*
    rw[y3]at g2
    have g4:=QIP [.wr w1] (by simp)
    have g5:=Ji [.wr w1,.bar] (by simp) ak (by omega) Yk af
    rw[QK5]at g5
    generalize (⟨17+ak,Z7 Yk,3,af,0⟩:Wr)=w2 at*
    refine QR QMJ fun T=>?_
    (repeat' ((conv=>whnf);first|refine cEk hS ?_|refine CallE.inl ?_|refine rFk hK ?_|refine CallI.hp g3 [0,1,2,3,4,5] ?_|refine CallI.h g4 [12,13] ?_|refine CallI.h g5 [12,13] ?_|((refine CallI.wk (Wk.nlTs 12 0 1 37 243 (by with_unfolding_all exact rfl) (by with_unfolding_all exact rfl)) ⟨_,_,_,_,_,_,rfl,rfl,rfl,rfl⟩ ?_);refine CallI.h g2 [12,13] ?_)|refine QB ?_|intro x hx hu|intro h|refine Spp.mk ?_ ?_))
    exact QJ
 ·rw [decide_eq_true (by omega)]at hS
  rw[if_neg (fun x=>c1 x.1),if_neg c1]
  dsimp only
  rw[JE,show((ck.toNat:Nat):Int)=ck by omega]
  have g3:=go3 ck (by omega)
  have g2:=g2 ck (by omega)
  generalize (⟨17+ck,Z7 ⟨xu,xp,xn,xt⟩,3,cf,0⟩:Wr)=w1 at*
  rw[y3]at g2
  have g4:=QIP [.wr w1] (by simp)
  have g5:=Ji [.wr w1,.bar] (by simp) ak (by omega) Yk af
  rw[QK5]at g5
  generalize (⟨17+ak,Z7 Yk,3,af,0⟩:Wr)=w2 at*
  refine QR QMJ fun T=>?_
  (repeat' ((conv=>whnf);first|refine cEk hS ?_|refine CallE.inl ?_|refine CallI.hp g3 [0,1,2,3,4,5] ?_|refine CallI.h g4 [12,13] ?_|refine CallI.h g5 [12,13] ?_|((refine CallI.wk (Wk.nlTs 12 0 1 37 243 (by with_unfolding_all exact rfl) (by with_unfolding_all exact rfl)) ⟨_,_,_,_,_,_,rfl,rfl,rfl,rfl⟩ ?_);refine CallI.h g2 [12,13] ?_)|refine QB ?_|intro x hx hu|intro h|refine Spp.mk ?_ ?_))
  exact QJ
theorem QOT(p q:List UInt8)(hp:p.length≤100000)(hq:q.length≤100000):FnC Tryz.prog 143 [.d (.st p),.d (.st q)] (.d (.it .i64 (if(XJ p).2.2≠0 then(XJ p).2.2 else(XJ q).2.2))):=by
 have h1:=QHB p hp
 have h2:=QHB q hq
 rw[QKn]at h1 h2
 generalize XJ p=u at*
 generalize XJ q=v at*
 obtain⟨u1,u2,u3⟩:=u
 obtain⟨v1,v2,v3⟩:=v
 dsimp only at*
 replace h1:FnC Tryz.prog 181 [.d (.st p)] (.tup [.d (.st u1),.d (.st u2),.d (.it .i64 u3)]):=h1
 replace h2:FnC Tryz.prog 181 [.d (.st q)] (.tup [.d (.st v1),.d (.st v2),.d (.it .i64 v3)]):=h2
 by_cases c1:u3=0
 ·subst c1
  rw[if_neg (by simp)]
  by_cases c2:v3=0
  ·subst c2
   refine QL QNy ?_
   (repeat' ((conv=>whnf);first|refine cEk h1 ?_|refine cEk h2 ?_|refine CallE.inl ?_|with_reducible refine CallI.inl QA QN1 rfl ?_|with_reducible refine Q4.unroll QA 3 ?_|refine QB ?_|intro x hx hu|intro h|refine Spp.mk ?_ ?_))
   rfl
  ·refine QL QNy ?_
   (repeat' ((conv=>whnf);first|refine cEk h1 ?_|refine cEk h2 ?_|refine CallE.inl ?_|with_reducible refine CallI.inl QA QN1 rfl ?_|with_reducible refine Q4.unroll QA 3 ?_|refine QB ?_|intro x hx hu|intro h|refine Spp.mk ?_ ?_))
   rfl
 ·rw [if_pos c1]
  refine QL QNy ?_
  (repeat' ((conv=>whnf);first|refine cEk h1 ?_|refine cEk h2 ?_|refine CallE.inl ?_|with_reducible refine CallI.inl QA QN1 rfl ?_|with_reducible refine Q4.unroll QA 3 ?_|refine QB ?_|intro x hx hu|intro h|refine Spp.mk ?_ ?_))
  rfl
theorem QK8(a b:List (List UInt8))(ha:a.length≤100000):FnC Tryz.prog 227 [.d (.fs 1 (a.map stL)),.d (.fs 1 (b.map stL))] (.d (.bl (decide (a=b)))):=by
 have hla:(a.map stL).length=a.length:=ze ..
 have hlb:(b.map stL).length=b.length:=ze ..
 refine QL QRM ?_
 by_cases he:a.length=b.length
 ·(repeat' ((conv=>whnf);first|refine QB ?_|intro x hx hu|intro h|refine Spp.mk ?_ ?_))
  conv=>whnf
  refine Zb QA (fun k:Nat=>k≤a.length∧a.take k=b.take k) (fun k=>⟨[(0,.d (.fs 1 (a.map stL))),(1,.d (.fs 1 (b.map stL))),(12,.d (.it .i64 (a.length:Nat))),(13,.d (.it .i64 (k:Nat)))],[],0⟩) (fun k=>a.length-k) 0 ⟨yf _,rfl⟩ ⟨ai rfl (ai rfl (ai (QW (by omega)) (ai rfl trivial))),trivial,rfl⟩ ?_
  intro k ⟨k1,k2⟩
  rcases yq k a.length with hkl|hkl
  ·obtain ⟨x,hx⟩:=ZD hkl
   obtain⟨y,hy⟩:=ZD (l:=b) (k:=k) (by omega)
   have h1:x=y→a.take (k+1)=b.take (k+1):=fun h=>by rw[Q3 hx,Q3 hy,k2,h]
   have h2:¬x=y→decide (a=b)=false:=fun h=>decide_eq_false fun hab=>h (by
    rw[hab,hy]at hx
    exact(za hx).symm)
   (repeat' ((conv=>whnf);first|refine QB ?_|intro x hx hu|intro h|refine Spp.mk ?_ ?_))
   all_goals first
    |(refine again (k+1) ⟨by omega,h1 (by assumption)⟩ (by first|omega|(dsimp only;omega)) (ai rfl (ai rfl (ai rfl (ai (QW (by omega)) trivial)))) trivial rfl;done)
    |exact YL (h2 (by assumption)).symm
    |exact YL (h2 (fun h=>by simp_all)).symm
  ·have h3:decide (a=b)=true:=decide_eq_true (by
    have e1:a.take k=a:=yd (by omega)
    have e2:b.take k=b:=yd (by omega)
    rw[←e1,k2,e2])
   (repeat' ((conv=>whnf);first|refine QB ?_|intro x hx hu|intro h|refine Spp.mk ?_ ?_))
   exact YL h3.symm
 ·(repeat' ((conv=>whnf);first|refine QB ?_|intro x hx hu|intro h|refine Spp.mk ?_ ?_))
  exact YL (decide_eq_false fun hab=>he (by rw[hab])).symm
theorem QMp{p q:List UInt8}(h:¬((QH p).2=0∧(QH q).2=0∧(QH q).1.length≤(QH p).1.length)):QHK p q=false:=decide_eq_false fun x=>h ⟨x.1,x.2.1,x.2.2.1⟩
theorem QK9(p q:List UInt8)(hp:p.length≤100000)(hq:q.length≤100000):FnC Tryz.prog 183 [.d (.st p),.d (.st q)] (.d (.bl (QHK p q))):=by
 have h1:=Zj p hp
 have h2:=Zj q hq
 have hl1:=YD p
 have hl2:=YD q
 have hno:= @QMp p q
 have hE:=QK8 ((QH p).1.take (QH q).1.length) (QH q).1 (by rw[z2];omega)
 have hyes:(QH p).2=0→(QH q).2=0→(QH q).1.length≤(QH p).1.length→QHK p q=decide ((QH p).1.take (QH q).1.length=(QH q).1):=fun a b c=>by
  unfold QHK
  simp only[a,b,c,true_and]
 generalize QHK p q=r at*
 generalize QH p=u at*
 generalize QH q=v at*
 obtain⟨l1,e1⟩:=u
 obtain⟨l2,e2⟩:=v
 dsimp only at*
 have hla:(l1.map stL).length=l1.length:=ze ..
 have hlb:(l2.map stL).length=l2.length:=ze ..
 replace h1:FnC Tryz.prog 53 [.d (.st p)] (.tup [.d (.fs 1 (l1.map stL)),.d (.it .i64 e1)]):=h1
 replace h2:FnC Tryz.prog 53 [.d (.st q)] (.tup [.d (.fs 1 (l2.map stL)),.d (.it .i64 e2)]):=h2
 by_cases c:e1=0∧e2=0∧l2.length≤l1.length
 ·have hr:=hyes c.1 c.2.1 c.2.2
  have c1:=c.1
  have c2:=c.2.1
  have c3:=c.2.2
  have ht:(l1.take l2.length).map stL=(l1.map stL).take (((l2.map stL).length:Nat):Int).toNat:=by
   rw[vz,hlb];rfl
  rw[ht]at hE
  refine QL QPc ?_
  (repeat' ((conv=>whnf);first|refine cEk h1 ?_|refine cEk h2 ?_|refine cEk hE ?_|refine QB ?_|intro x hx hu|intro h|refine Spp.mk ?_ ?_))
  all_goals first|(exfalso;omega)|skip
  all_goals exact YL hr.symm
 ·have hr:=hno c
  refine QL QPc ?_
  (repeat' ((conv=>whnf);first|refine cEk h1 ?_|refine cEk h2 ?_|refine QB ?_|intro x hx hu|intro h|refine Spp.mk ?_ ?_))
  all_goals first|(exfalso;omega)|skip
  all_goals exact YL hr.symm
theorem QJf(frm tq:List UInt8)(hp:frm.length≤100000)(hq:tq.length≤100000):FnC Tryz.prog 145 [.d (.st tq),.d (.st frm)] (.d (.bl (QMg frm tq))):=by
 have h1:=Zj frm hp
 have h2:=Zj tq hq
 have h3:=QK9 tq frm hq hp
 have hl1:=YD frm
 have hl2:=YD tq
 unfold QMg
 generalize QHK tq frm=r at*
 generalize QH frm=u at*
 generalize QH tq=v at*
 obtain⟨l1,e1⟩:=u
 obtain⟨l2,e2⟩:=v
 dsimp only at*
 have hla:(l1.map stL).length=l1.length:=ze ..
 have hlb:(l2.map stL).length=l2.length:=ze ..
 replace h1:FnC Tryz.prog 53 [.d (.st frm)] (.tup [.d (.fs 1 (l1.map stL)),.d (.it .i64 e1)]):=h1
 replace h2:FnC Tryz.prog 53 [.d (.st tq)] (.tup [.d (.fs 1 (l2.map stL)),.d (.it .i64 e2)]):=h2
 cases r with
 |true=>
  refine QL QPT ?_
  (repeat' ((conv=>whnf);first|refine cEk h1 ?_|refine cEk h2 ?_|refine cEk h3 ?_|refine QB ?_|intro x hx hu|intro h|refine Spp.mk ?_ ?_))
  rfl
 |false=>
  have hb:decide (((l2.map stL).length:Int)>((l1.map stL).length:Int))=(false||decide (l1.length<l2.length)):=by
   rw[hla,hlb,u0,xw,decide_eq_true_eq,decide_eq_true_eq];omega
  refine QL QPT ?_
  (repeat' ((conv=>whnf);first|refine cEk h1 ?_|refine cEk h2 ?_|refine cEk h3 ?_|refine QB ?_|intro x hx hu|intro h|refine Spp.mk ?_ ?_))
  exact YL hb
end Go.Proofs.YtikgcbioagmkkaaGreatDoor
