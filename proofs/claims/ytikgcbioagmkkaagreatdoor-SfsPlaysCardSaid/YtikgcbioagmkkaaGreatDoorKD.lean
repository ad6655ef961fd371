/- Contracts of the functions that the law reaches, and the law. Conditions: none. -/
import Derived.Test.YtikgcbioagmkkaaGreatDoorKA
import Derived.Test.YtikgcbioagmkkaaGreatDoorKB
import Derived.Test.YtikgcbioagmkkaaGreatDoorSD
import Derived.Test.YtikgcbioagmkkaaGreatDoorSC
import Derived.Test.YtikgcbioagmkkaaGreatDoorKC
set_option maxRecDepth 100000
set_option linter.all false
set_option maxHeartbeats 16000000
namespace Go.Proofs.YtikgcbioagmkkaaGreatDoor
open Go.Sy
def Yh(s:List UInt8):List UInt8:=if(s.getD 3 0).toNat≤16 then(s.drop 16).take (s.getD 3 0).toNat else []
def ZW(s:List UInt8):Ent:=⟨true,(s.getD 1 0).toNat,Yh s,(s.getD 2 0).toNat⟩
def Q6:Ent:=⟨false,0,[],0⟩
def QDl(s:List UInt8):Prop:=RE (ZW s)∧s=Xp (ZW s)
instance(s:List UInt8):Decidable (QDl s):=by unfold QDl;infer_instance
def JL(s:List UInt8):Ent:=if QDl s then ZW s else Q6
def J0(s:List UInt8):Bool:=decide (s=Qh∨QDl s)
def QCA(s:List UInt8):AV:= .tup [.dg 4 (Xe (JL s)),.d (.bl (J0 s))]
theorem QMB:¬QDl Qh:=by
 intro h
 have h1:=h.1
 unfold RE ZW at h1
 rcases h1 with h1|h1
 ·cases h1.1
 ·have:(1:Int)≤((Qh.getD 2 0).toNat:Int):=h1.2.2.2.1
  revert this;decide
theorem QMC(s:List UInt8)(hs:s.length=32):FnC Tryz.prog 167 [.dg 32 (QJ s)] (QCA s):=by
 have hz:=QOg s hs
 have c1:=(s.getD 1 0).toNat_lt
 have c2:=(s.getD 2 0).toNat_lt
 have c3:=(s.getD 3 0).toNat_lt
 have hc:=QQZ s hs (s.getD 3 0).toNat (by omega)
 have he:=QL0 (ZW s)
 unfold QCA
 by_cases h0:s=Qh
 ·subst h0
  rw[decide_eq_true rfl]at hz
  rw[show JL Qh=Q6 from if_neg QMB,show J0 Qh=true from decide_eq_true (.inl rfl)]
  refine QL QOT ?_
  (repeat' ((conv=>whnf);first|refine cEk hz ?_|with_reducible refine AtA.mk' ?_|refine QB ?_|intro x hx hu|intro h|refine Spp.mk ?_ ?_))
  all_goals rfl
 rw[decide_eq_false h0]at hz
 have hEq:Xe (ZW s)=[.bl true,.it .i64 (s.getD 1 0).toNat,.st (Yh s),.it .i64 (s.getD 2 0).toNat]:=rfl
 by_cases h1:RE (ZW s)
 ·have hel:=QBS _ h1
  rw[QDh,if_pos h1]at he
  have heq:=eqS s (Xp (ZW s)) (by rw[hs,hel])
  by_cases h2:s=Xp (ZW s)
  ·rw [show JL s=ZW s from if_pos ⟨h1,h2⟩,show J0 s=true from decide_eq_true (.inr ⟨h1,h2⟩)]
   rw[decide_eq_true h2]at heq
   refine QL QOT ?_
   (repeat' ((conv=>whnf);first|refine cEk hz ?_|refine cEk he ?_|refine ZQ.mk ⟨_,hc,?_⟩|((with_reducible refine QK ?_);(refine QAe QA mixed ?_))|((with_reducible refine letC_id ?_);refine Zr.mk ((QJ (Xp (ZW s))).map AV.d) (Xf _) ?_)|refine AtA.eq (QM rfl (QN hs 1 (by decide))) ?_|refine AtA.eq (QM rfl (QN hs 2 (by decide))) ?_|refine AtA.eq (QM rfl (QN hs 3 (by decide))) ?_|refine AtA.eq (Ql rfl rfl hs) ?_|refine AtA.eq (Ql rfl rfl hel) ?_|refine ZM (Zw _ _ hs hel) ?_|((with_reducible refine QAI ?_);refine⟨Yh s,rfl,?_⟩)|refine QB ?_|intro x hx hu|intro h|refine Spp.mk ?_ ?_))
   all_goals rfl
  ·rw [show JL s=Q6 from if_neg (fun q=>h2 q.2),show J0 s=false from decide_eq_false (fun q=>q.elim h0 fun q=>h2 q.2)]
   rw[decide_eq_false h2]at heq
   refine QL QOT ?_
   (repeat' ((conv=>whnf);first|refine cEk hz ?_|refine cEk he ?_|refine ZQ.mk ⟨_,hc,?_⟩|((with_reducible refine QK ?_);(refine QAe QA mixed ?_))|((with_reducible refine letC_id ?_);refine Zr.mk ((QJ (Xp (ZW s))).map AV.d) (Xf _) ?_)|refine AtA.eq (QM rfl (QN hs 1 (by decide))) ?_|refine AtA.eq (QM rfl (QN hs 2 (by decide))) ?_|refine AtA.eq (QM rfl (QN hs 3 (by decide))) ?_|refine AtA.eq (Ql rfl rfl hs) ?_|refine AtA.eq (Ql rfl rfl hel) ?_|refine ZM (Zw _ _ hs hel) ?_|((with_reducible refine QAI ?_);refine⟨Yh s,rfl,?_⟩)|refine QB ?_|intro x hx hu|intro h|refine Spp.mk ?_ ?_))
   all_goals rfl
 ·have hel:Qh.length=32:=rfl
  rw[QDh,if_neg h1]at he
  rw[show JL s=Q6 from if_neg (fun q=>h1 q.1),show J0 s=false from decide_eq_false (fun q=>q.elim h0 fun q=>h1 q.1)]
  refine QL QOT ?_
  (repeat' ((conv=>whnf);first|refine cEk hz ?_|refine cEk he ?_|refine ZQ.mk ⟨_,hc,?_⟩|((with_reducible refine QK ?_);(refine QAe QA mixed ?_))|((with_reducible refine letC_id ?_);refine Zr.mk ((QJ Qh).map AV.d) (Xf _) ?_)|refine AtA.eq (QM rfl (QN hs 1 (by decide))) ?_|refine AtA.eq (QM rfl (QN hs 2 (by decide))) ?_|refine AtA.eq (QM rfl (QN hs 3 (by decide))) ?_|refine AtA.eq (Ql rfl rfl hs) ?_|refine AtA.eq (Ql rfl rfl hel) ?_|refine ZM (Zw _ _ hs hel) ?_|((with_reducible refine QAI ?_);refine⟨Yh s,rfl,?_⟩)|refine QB ?_|intro x hx hu|intro h|refine Spp.mk ?_ ?_))
  all_goals rfl
theorem QHD{s:List UInt8}(h:QDl s):s.getD 0 0=1∧(s.getD 3 0).toNat≤8:=by
 obtain⟨h1,h2⟩:=h
 have hl:(Yh s).length≤8:=by
  unfold RE ZW at h1
  rcases h1 with h1|h1
  ·cases h1.1
  ·have:=h1.2.2.2.2.2
   unfold Zl at this
   simp only[zf,decide_eq_true_eq]at this
   exact this.1.2.1
 have e0:s.getD 0 0=1:=by rw[h2];rfl
 have e3:s.getD 3 0=QB6 ((Yh s).length:Nat):=by
  have:s.getD 3 0=(Xp (ZW s)).getD 3 0:=by rw[←h2]
  exact this
 refine⟨e0,?_⟩
 have:=QBR (n:=((Yh s).length:Nat)) (by omega)
 rw[e3];omega
theorem QBV{s:List UInt8}(hn:(s.getD 3 0).toNat≤16){a b:Nat}(ha:a=16)(hb:b=(s.getD 3 0).toNat):(((QJ s).map AV.d).drop a).take b=(Yh s).map u8A:=by
 subst ha hb
 unfold Yh
 rw[if_pos hn]
 unfold QJ u8A
 rw[km,ug,u6];rfl
theorem QHE(s:List UInt8)(hs:s.length=32):FnC Tryz.prog 138 [.dg 32 (QJ s)] (QCA s):=by
 have c0:=(s.getD 0 0).toNat_lt
 have c1:=(s.getD 1 0).toNat_lt
 have c2:=(s.getD 2 0).toNat_lt
 have c3:=(s.getD 3 0).toNat_lt
 unfold QCA
 by_cases hx:s.getD 0 0=1∧(s.getD 3 0).toNat≤8
 ·obtain ⟨x0,x3⟩:=hx
  have h0:¬s=Qh:=by intro h;rw[h]at x0;cases x0
  have x0':((s.getD 0 0).toNat:Int)=1:=by rw[x0];rfl
  have he:=QB7 (ZW s)
  by_cases h1:RE (ZW s)
  ·have hel:=QBS _ h1
   rw[QDh,if_pos h1]at he
   have heq:=eqS (Xp (ZW s)) s (by rw[hs,hel])
   by_cases h2:s=Xp (ZW s)
   ·rw [show JL s=ZW s from if_pos ⟨h1,h2⟩,show J0 s=true from decide_eq_true (.inr ⟨h1,h2⟩)]
    rw[decide_eq_true h2.symm]at heq
    refine QL QLi ?_
    (repeat' ((conv=>whnf);first|refine cEk he ?_|((with_reducible refine letC_id ?_);refine Zr.mk ((QJ (Xp (ZW s))).map AV.d) (Xf _) ?_)|refine AtA.eq (QM rfl (QN hs 0 (by decide))) ?_|refine AtA.eq (QM rfl (QN hs 1 (by decide))) ?_|refine AtA.eq (QM rfl (QN hs 2 (by decide))) ?_|refine AtA.eq (QM rfl (QN hs 3 (by decide))) ?_|refine AtA.eq (Ql rfl rfl hs) ?_|refine AtA.eq (Ql rfl rfl hel) ?_|refine ZM (Zw _ _ hel hs) ?_|((with_reducible refine QAI ?_);refine⟨Yh s,⟨?_,QBV (by omega) ?_ ?_⟩,?_⟩)|refine QB ?_|intro x hx hu|intro h|refine Spp.mk ?_ ?_))
    all_goals first|rfl|(show 0+Int.toNat 16*1+((16+((s.getD 3 0).toNat:Int)).toNat-Int.toNat 16)≤32;omega)|(show((16+((s.getD 3 0).toNat:Int)).toNat-Int.toNat 16)=_;omega)
   ·rw [show JL s=Q6 from if_neg (fun q=>h2 q.2),show J0 s=false from decide_eq_false (fun q=>q.elim h0 fun q=>h2 q.2)]
    rw[decide_eq_false (w8 h2)]at heq
    refine QL QLi ?_
    (repeat' ((conv=>whnf);first|refine cEk he ?_|((with_reducible refine letC_id ?_);refine Zr.mk ((QJ (Xp (ZW s))).map AV.d) (Xf _) ?_)|refine AtA.eq (QM rfl (QN hs 0 (by decide))) ?_|refine AtA.eq (QM rfl (QN hs 1 (by decide))) ?_|refine AtA.eq (QM rfl (QN hs 2 (by decide))) ?_|refine AtA.eq (QM rfl (QN hs 3 (by decide))) ?_|refine AtA.eq (Ql rfl rfl hs) ?_|refine AtA.eq (Ql rfl rfl hel) ?_|refine ZM (Zw _ _ hel hs) ?_|((with_reducible refine QAI ?_);refine⟨Yh s,⟨?_,QBV (by omega) ?_ ?_⟩,?_⟩)|refine QB ?_|intro x hx hu|intro h|refine Spp.mk ?_ ?_))
    all_goals first|rfl|(show 0+Int.toNat 16*1+((16+((s.getD 3 0).toNat:Int)).toNat-Int.toNat 16)≤32;omega)|(show((16+((s.getD 3 0).toNat:Int)).toNat-Int.toNat 16)=_;omega)
  ·have hel:Qh.length=32:=rfl
   rw[QDh,if_neg h1]at he
   rw[show JL s=Q6 from if_neg (fun q=>h1 q.1),show J0 s=false from decide_eq_false (fun q=>q.elim h0 fun q=>h1 q.1)]
   refine QL QLi ?_
   (repeat' ((conv=>whnf);first|refine cEk he ?_|((with_reducible refine letC_id ?_);refine Zr.mk ((QJ Qh).map AV.d) (Xf _) ?_)|refine AtA.eq (QM rfl (QN hs 0 (by decide))) ?_|refine AtA.eq (QM rfl (QN hs 1 (by decide))) ?_|refine AtA.eq (QM rfl (QN hs 2 (by decide))) ?_|refine AtA.eq (QM rfl (QN hs 3 (by decide))) ?_|refine AtA.eq (Ql rfl rfl hs) ?_|refine AtA.eq (Ql rfl rfl hel) ?_|refine ZM (Zw _ _ hel hs) ?_|((with_reducible refine QAI ?_);refine⟨Yh s,⟨?_,QBV (by omega) ?_ ?_⟩,?_⟩)|refine QB ?_|intro x hx hu|intro h|refine Spp.mk ?_ ?_))
   all_goals first|rfl|(show 0+Int.toNat 16*1+((16+((s.getD 3 0).toNat:Int)).toNat-Int.toNat 16)≤32;omega)|(show((16+((s.getD 3 0).toNat:Int)).toNat-Int.toNat 16)=_;omega)
 ·have hne:¬QDl s:=fun h=>hx (QHD h)
  have hx':(s.getD 0 0).toNat=1→¬(s.getD 3 0).toNat≤8:=fun h1 h2=>hx ⟨jw.1 h1,h2⟩
  have hel:Qh.length=32:=rfl
  have h1:RE Q6:=by decide
  have he:=QB7 Q6
  rw[QDh,if_pos h1,show Xp Q6=Qh from rfl]at he
  have heq:=eqS Qh s (by rw[hs];rfl)
  rw[show JL s=Q6 from if_neg hne]
  by_cases h0:Qh=s
  ·rw [decide_eq_true h0]at heq
   rw[show J0 s=true from decide_eq_true (.inl h0.symm)]
   refine QL QLi ?_
   (repeat' ((conv=>whnf);first|refine cEk he ?_|((with_reducible refine letC_id ?_);refine Zr.mk ((QJ Qh).map AV.d) (Xf _) ?_)|refine AtA.eq (QM rfl (QN hs 0 (by decide))) ?_|refine AtA.eq (QM rfl (QN hs 1 (by decide))) ?_|refine AtA.eq (QM rfl (QN hs 2 (by decide))) ?_|refine AtA.eq (QM rfl (QN hs 3 (by decide))) ?_|refine AtA.eq (Ql rfl rfl hs) ?_|refine AtA.eq (Ql rfl rfl hel) ?_|refine ZM (Zw _ _ hel hs) ?_|((with_reducible refine QAI ?_);refine⟨Yh s,⟨?_,QBV (by omega) ?_ ?_⟩,?_⟩)|refine QB ?_|intro x hx hu|intro h|refine Spp.mk ?_ ?_))
   all_goals first|rfl|(show 0+Int.toNat 16*1+((16+((s.getD 3 0).toNat:Int)).toNat-Int.toNat 16)≤32;omega)|(show((16+((s.getD 3 0).toNat:Int)).toNat-Int.toNat 16)=_;omega)
  ·rw [decide_eq_false h0]at heq
   rw[show J0 s=false from decide_eq_false (fun q=>q.elim (fun q=>h0 q.symm) hne)]
   refine QL QLi ?_
   (repeat' ((conv=>whnf);first|refine cEk he ?_|((with_reducible refine letC_id ?_);refine Zr.mk ((QJ Qh).map AV.d) (Xf _) ?_)|refine AtA.eq (QM rfl (QN hs 0 (by decide))) ?_|refine AtA.eq (QM rfl (QN hs 1 (by decide))) ?_|refine AtA.eq (QM rfl (QN hs 2 (by decide))) ?_|refine AtA.eq (QM rfl (QN hs 3 (by decide))) ?_|refine AtA.eq (Ql rfl rfl hs) ?_|refine AtA.eq (Ql rfl rfl hel) ?_|refine ZM (Zw _ _ hel hs) ?_|((with_reducible refine QAI ?_);refine⟨Yh s,⟨?_,QBV (by omega) ?_ ?_⟩,?_⟩)|refine QB ?_|intro x hx hu|intro h|refine Spp.mk ?_ ?_))
   all_goals first|rfl|(show 0+Int.toNat 16*1+((16+((s.getD 3 0).toNat:Int)).toNat-Int.toNat 16)≤32;omega)|(show((16+((s.getD 3 0).toNat:Int)).toNat-Int.toNat 16)=_;omega)
structure Wr where
 a:Int
 s:List UInt8
 k:Int
 i:Int
 e:Int
deriving DecidableEq
def Qn(w:Wr):List D:=[.it .i64 w.a]++QJ w.s++[.it .i64 w.k,.it .i64 w.i,.it .i64 w.e]
structure Dk where
 nx:Int
 safe:List (List UInt8)
 wait:List Wr
 log:List (List D)
 ep:Int
def QE8(d:Dk):List D:=[.an,.it .i64 d.nx,.fs 32 (d.safe.map QJ),.fs 36 (d.wait.map Qn),.fs 38 d.log,.it .i64 d.ep]
def Qd:Option Dk→D
 |none=> .ot (.pointer none)
 |some d=> .fp 6 (QE8 d)
def Xg:Option Dk→Prop
 |none=>True
 |some d=>(∀s∈d.safe,s.length=32)∧(∀w∈d.wait,w.s.length=32)∧d.safe.length≤65∧d.wait.length≤100000
def QCj:Option Dk→Bool
 |none=>true
 |some d=>decide (d.safe.length=0)
def QHF(d:Option Dk)(n:Int):Prop:=
 match d with
 |none=>False
 |some d=>0≤n∧n<d.safe.length
instance(d:Option Dk)(n:Int):Decidable (QHF d n):=by unfold QHF;cases d<;>infer_instance
def YM(n:Int)(w:List Wr):Option (List UInt8):=(w.reverse.find? (fun x=>decide (x.a=n))).map (·.s)
def rdS(d:Option Dk)(n:Int):List UInt8:=
 match d with
 |none=>Qh
 |some d=>if 0≤n∧n<d.safe.length then(match YM n d.wait with|some s=>s|none=>d.safe.getD n.toNat Qh)else Qh
def rdE(d:Option Dk)(n:Int):Int:=if QHF d n then 0 else 1
theorem Xh{d:Option Dk}(h:Xg d)(n:Int):(rdS d n).length=32:=by
 cases d with
 |none=>rfl
 |some d=>
  obtain⟨h1,h2,_⟩:=h
  simp only[rdS]
  split
  ·split
   ·rename_i s hs
    simp only[YM,ui]at hs
    obtain⟨w,hw,rfl⟩:=hs
    exact h2 w (by simpa using uw hw)
   ·rw [zk]
    cases hq:d.safe[n.toNat]? with
    |none=>rfl
    |some s=>exact h1 s (yj hq)
  ·rfl
theorem QAJ(d:Option Dk):FnC Tryz.prog 57 [.d (Qd d)] (.d (.bl (QCj d))):=by
 cases d with
 |none=>
  refine QL i57 ?_
  (repeat' ((conv=>whnf);first|refine QB ?_|intro x hx hu|intro h|refine Spp.mk ?_ ?_))
  rfl
 |some d=>
  refine QL i57 ?_
  (repeat' ((conv=>whnf);first|refine QB ?_|intro x hx hu|intro h|refine Spp.mk ?_ ?_))
  refine ZL ?_
  show(((d.safe.map QJ).length:Int)==0)=decide (d.safe.length=0)
  rw[zb,wc,beq_iff_eq,decide_eq_true_eq];omega
theorem QQf(d:Option Dk)(n:Int):FnC Tryz.prog 51 [.d (Qd d),.d (.it .i64 n)] (.d (.bl (decide (QHF d n)))):=by
 have hn:=QAJ d
 cases d with
 |none=>
  refine QL i51 ?_
  (repeat' ((conv=>whnf);first|refine cEk hn ?_|refine QB ?_|intro x hx hu|intro h|refine Spp.mk ?_ ?_))
  rfl
 |some d=>
  by_cases h:d.safe.length=0
  ·rw [show QCj (some d)=true from decide_eq_true h]at hn
   refine QL i51 ?_
   (repeat' ((conv=>whnf);first|refine cEk hn ?_|refine QB ?_|intro x hx hu|intro h|refine Spp.mk ?_ ?_))
   exact XH (by show¬(0≤n∧n<d.safe.length);omega)
  ·rw [show QCj (some d)=false from decide_eq_false h]at hn
   refine QL i51 ?_
   (repeat' ((conv=>whnf);first|refine cEk hn ?_|refine QB ?_|intro x hx hu|intro h|refine Spp.mk ?_ ?_))
   all_goals first
    |exact XH (by show¬(0≤n∧n<d.safe.length);omega)
    |exact QAv (by show n<((d.safe.map QJ).length:Int)↔(0≤n∧n<(d.safe.length:Int));rw[zb];omega)
theorem YN{α β:Type}{e:α→β}{l:List α}{n:Int}{x:α}{K:β→Prop}(h0:0≤n∧n<l.length)(hx:l[n.toNat]? =some x)(h:K (e x)):
  (0≤n∧n<(l.map e).length)∧∀c,(l.map e)[n.toNat]? =some c→K c:=
 QKb h0 fun y hy=>by rw[hx]at hy;obtain rfl:=za hy;exact h
theorem QMD{w:Wr}(h:w.s.length=32):(Qn w).length=36:=by unfold Qn;simp[ZS,h]
theorem QME{l:List D}{n:Nat}(h:l.length=n):l.map AV.d=[]++(l.take n).map AV.d++[]:=by
 rw[yb (by omega),xg,xf]
theorem QIp{n:Int}{l:List Wr}{k:Nat}{w:Wr}(h:∀j,j<k→∀x,l.reverse[j]? =some x→x.a≠n)(hw:l.reverse[k]? =some w)(ha:w.a=n):YM n l=some w.s:=by
 unfold YM
 have hk:=(z6.1 hw).1
 rw[u7.2 ⟨by simpa using ha,k,hk,(z6.1 hw).2,fun j hj=>by
  have:=h j hj _ (zi (by omega))
  simpa using this⟩]
 rfl
theorem QHG{n:Int}{l:List Wr}(h:∀j,j<l.length→∀x,l.reverse[j]? =some x→x.a≠n):YM n l=none:=by
 unfold YM
 rw[Option.map_eq_none_iff,qc]
 intro x hx
 obtain⟨j,hj,rfl⟩:=vu hx
 have:=h j (by simpa using hj) _ (zi hj)
 simpa using this
theorem hpd{d:Dk}{n:Int}:QHF (some d) n↔(0≤n∧n<d.safe.length):=Iff.rfl
theorem ldW{w:Wr}(hs:w.s.length=32){ty:Ty}(ha:ty.kd.agg=true)(hz:ty.size=32):ldA ty 1 ((Qn w).map AV.d)= .dg 32 (QJ w.s):=by
 unfold ldA
 rw[ha,cond_true,hz]
 have h1:(((Qn w).map AV.d).drop 1).take 32=(QJ w.s).map AV.d:=by
  show((QJ w.s++_).map AV.d).take 32=_
  rw[yc,wm (by rw[zb,ZS,hs];exact zt _),yb (by rw[zb,ZS,hs];exact zt _)]
 rw[h1]
 unfold QEp
 rw[JK]
theorem QF1(d:Option Dk)(hd:Xg d)(n:Int):FnC Tryz.prog 12 [.d (Qd d),.d (.it .i64 n)] (.tup [.dg 32 (QJ (rdS d n)),.d (.it .i64 (rdE d n))]):=by
 have hh:=QQf d n
 by_cases h:QHF d n
 rotate_left
 ·rw [decide_eq_false h]at hh
  rw[show rdE d n=1 from if_neg h,show rdS d n=Qh by cases d with|none=>rfl|some d=>exact if_neg h]
  refine QL i12 ?_
  (repeat' ((conv=>whnf);first|refine cEk hh ?_|with_reducible refine AtA.mk' ?_|refine QB ?_|intro x hx hu|intro h|refine Spp.mk ?_ ?_))
  rfl
 rw[decide_eq_true h]at hh
 cases d with
 |none=>exact h.elim
 |some d=>
  obtain⟨hd1,hd2,hd3,hd4⟩:=hd
  obtain⟨h0,h1⟩:=hpd.1 h
  rw[show rdE (some d) n=0 from if_pos h,show rdS (some d) n=(match YM n d.wait with|some s=>s|none=>d.safe.getD n.toNat Qh)from if_pos h]
  generalize hR:(match YM n d.wait with|some s=>s|none=>d.safe.getD n.toNat Qh)=R
  refine QL i12 ?_
  (repeat' ((conv=>whnf);first|refine cEk hh ?_|refine CallE.inl ?_|with_reducible refine CallI.inl QA i52 rfl ?_|with_reducible refine AtA.mk' ?_|refine QB ?_|intro x hx hu|intro h|refine Spp.mk ?_ ?_))
  conv=>whnf
  refine YR.intro QA QTL rfl rfl ?_
  (repeat' ((conv=>whnf);first|refine QB ?_|intro x hx hu|intro h|refine Spp.mk ?_ ?_))
  have hwl:(d.wait.map Qn).length=d.wait.length:=zb ..
  refine QFl QA (fun k:Nat=>k≤d.wait.length∧∀j,j<k→∀x,d.wait.reverse[j]? =some x→x.a≠n) (fun k=>[(0,.yld 6),(1,.ptr 4 0),(3,.d (.it .i64 ((d.wait.length:Nat)-1-(k:Nat))))]) (fun k=>d.wait.length-k) 0 ⟨z7 _,fun j hj=>by omega⟩ ⟨rfl,rfl,QQ (by rw[hwl];omega),trivial⟩ rfl ?_
  intro k ⟨k1,k2⟩
  rcases yh k d.wait.length with hkl|hkl
  ·obtain ⟨w,hw⟩:=Qy (l:=d.wait) (k:=d.wait.length-1-k) (by omega)
   have hw':d.wait[((d.wait.length:Int)-1-k).toNat]? =some w:=by rw[show((d.wait.length:Int)-1-k).toNat=d.wait.length-1-k by omega];exact hw
   have hrev:d.wait.reverse[k]? =some w:=by rw[List.getElem?_reverse hkl];exact hw
   have hws:=hd2 w (yj hw)
   (repeat' ((conv=>whnf);first|with_reducible refine QCO.intro QA (by with_unfolding_all exact rfl) (by with_unfolding_all exact rfl) (by with_unfolding_all exact rfl) ?_|((with_reducible refine letC_id ?_);first|refine Zr.mk ((Qn w).map AV.d) (QME (QMD hws)) ?_|refine Zr.mk ((QJ w.s).map AV.d) (Xf _) ?_)|refine AtA.eq (ldW hws rfl rfl) ?_|with_reducible refine AtA.mk' ?_|with_reducible refine YN (x:=w) (by omega) hw' ?_|refine QB ?_|intro x hx hu|intro h|refine Spp.mk ?_ ?_))
   ·have:R=w.s:=by rw[←hR,QIp k2 hrev (by assumption)]
    subst this
    conv=>whnf
    conv in (ldA _ _ _)=>tactic=>exact Ql rfl rfl hws
    rfl
   ·refine QKg (k+1) ⟨by omega,fun j hj x hx=>?_⟩ (by dsimp only;omega) (ai rfl (ai rfl (ai (QQ (by omega)) trivial))) (by (repeat (first|exact trivial|refine ai rfl ?_))) rfl
    rcases yh j k with hjk|hjk
    ·exact k2 j hjk x hx
    ·obtain rfl:j=k:=by omega
     obtain rfl:w=x:=za (hrev.symm.trans hx)
     assumption
  ·have:R=d.safe.getD n.toNat Qh:=by rw[←hR,QHG (fun j hj=>k2 j (by omega))]
   obtain⟨s,hsn⟩:=Qy (l:=d.safe) (k:=n.toNat) (by omega)
   have hsl:=hd1 s (yj hsn)
   rw[zk,hsn]at this
   have this:R=s:=this
   rw[this]
   (repeat' ((conv=>whnf);first|((with_reducible refine letC_id ?_);refine Zr.mk ((QJ s).map AV.d) (QME (by rw[ZS];exact hsl)) ?_)|with_reducible refine AtA.mk' ?_|with_reducible refine YN (x:=s) (by omega) hsn ?_|refine QB ?_|intro x hx hu|intro h|refine Spp.mk ?_ ?_))
   conv=>whnf
   conv in (ldA _ _ _)=>tactic=>exact Ql rfl rfl hsl
   rfl
def QEd(s:List UInt8):Prop:=RI (Zb s)∧s=QC5 (Zb s)
instance(s:List UInt8):Decidable (QEd s):=by unfold QEd;infer_instance
def QBW(s:List UInt8):Ino:=if QEd s then Zb s else QFz
theorem QAK(s:List UInt8):QB8 s= .tup [.dg 6 (Za (QBW s)),.d (.bl (decide (QEd s)))]:=by
 unfold QB8 QBW
 by_cases h:QEd s
 ·have h':RI (Zb s)∧s=QC5 (Zb s):=h
  rw[if_pos h',if_pos h,decide_eq_true h]
 ·have h':¬(RI (Zb s)∧s=QC5 (Zb s)):=h
  rw[if_neg h',if_neg h,decide_eq_false h]
def Qw(f:Int→List UInt8)(n:Int):Ino:=if 0≤n∧n<16 then QBW (f (1+n))else QFz
def QI(f:Int→List UInt8)(k:Int):Ent:=if 0≤k∧k<24 then JL (f (17+k))else Q6
def imS(m:List (List UInt8))(n:Int):List UInt8:=m.getD n.toNat Qh
def Zx(m:List (List UInt8)):Prop:=∀s∈m,s.length=32
theorem QBX{m:List (List UInt8)}(h:Zx m)(n:Int):(imS m n).length=32:=by
 unfold imS
 rw[zk]
 cases hq:m[n.toNat]? with
 |none=>rfl
 |some s=>exact h s (yj hq)
abbrev Q1(m:List (List UInt8)):D:= .fs 32 (m.map QJ)
theorem QP4(d:Option Dk)(hd:Xg d)(n:Int):FnC Tryz.prog 165 [.d (Qd d),.d (.it .i64 n)] (.dg 32 (QJ (rdS d n))):=by
 have hr:=QF1 d hd n
 have hl:=Xh hd n
 refine QL QTi ?_
 (repeat' ((conv=>whnf);first|refine cEk hr ?_|((with_reducible refine letC_id ?_);refine Zr.mk ((QJ (rdS d n)).map AV.d) (Xf _) ?_)|refine AtA.eq (Ql rfl rfl hl) ?_|refine QB ?_|intro x hx hu|intro h|refine Spp.mk ?_ ?_))
 conv=>whnf
 conv in (ldA _ _ _)=>tactic=>exact Ql rfl rfl hl
 rfl
theorem QHH(m:List (List UInt8))(hm:Zx m)(n:Int)(h0:0≤n):FnC Tryz.prog 139 [.d (Q1 m),.d (.it .i64 n)] (.dg 32 (QJ (imS m n))):=by
 have hl:=QBX hm n
 have hml:(m.map QJ).length=m.length:=zb ..
 refine QL QTZ ?_
 rcases Int.lt_or_le n (m.length:Int)with h|h
 ·obtain ⟨s,hs⟩:=Qy (l:=m) (k:=n.toNat) (by omega)
  have he:imS m n=s:=by unfold imS;rw[zk,hs];rfl
  rw[he]at hl⊢
  (repeat' ((conv=>whnf);first|((with_reducible refine letC_id ?_);refine Zr.mk ((QJ s).map AV.d) (QME (by rw[ZS];exact hl)) ?_)|with_reducible refine AtA.mk' ?_|with_reducible refine YN (x:=s) (by omega) hs ?_|refine QB ?_|intro x hx hu|intro h|refine Spp.mk ?_ ?_))
  all_goals first|omega|skip
  conv=>whnf
  conv in (ldA _ _ _)=>tactic=>exact Ql rfl rfl hl
  rfl
 ·have he:imS m n=Qh:=by unfold imS;rw[zk,wl (by omega)];rfl
  rw[he]
  (repeat' ((conv=>whnf);first|with_reducible refine AtA.mk' ?_|refine QB ?_|intro x hx hu|intro h|refine Spp.mk ?_ ?_))
  all_goals first|omega|rfl
theorem JM(d:Option Dk)(hd:Xg d)(n:Int):FnC Tryz.prog 111 [.d (Qd d),.d (.it .i64 n)] (.dg 6 (Za (Qw (rdS d) n))):=by
 by_cases h:0≤n∧n<16
 ·have ha:=QP4 d hd (1+n)
  have hi:=QHB (rdS d (1+n)) (Xh hd _)
  rw[QAK]at hi
  rw[show Qw (rdS d) n=QBW (rdS d (1+n))from if_pos h]
  refine QL QRs ?_
  (repeat' ((conv=>whnf);first|refine cEk ha ?_|refine cEk hi ?_|refine QB ?_|intro x hx hu|intro h|refine Spp.mk ?_ ?_))
  rfl
 ·rw [show Qw (rdS d) n=QFz from if_neg h]
  refine QL QRs ?_
  by_cases h0:n<0
  all_goals (repeat' ((conv=>whnf);first|refine QB ?_|intro x hx hu|intro h|refine Spp.mk ?_ ?_))
  all_goals first|omega|rfl
theorem Zh(m:List (List UInt8))(hm:Zx m)(n:Int):FnC Tryz.prog 86 [.d (Q1 m),.d (.it .i64 n)] (.dg 6 (Za (Qw (imS m) n))):=by
 by_cases h:0≤n∧n<16
 ·have ha:=QHH m hm (1+n) (by omega)
  have hi:=QCi (imS m (1+n)) (QBX hm _)
  rw[QAK]at hi
  rw[show Qw (imS m) n=QBW (imS m (1+n))from if_pos h]
  refine QL i86 ?_
  (repeat' ((conv=>whnf);first|refine cEk ha ?_|refine cEk hi ?_|refine QB ?_|intro x hx hu|intro h|refine Spp.mk ?_ ?_))
  rfl
 ·rw [show Qw (imS m) n=QFz from if_neg h]
  refine QL i86 ?_
  by_cases h0:n<0
  all_goals (repeat' ((conv=>whnf);first|refine QB ?_|intro x hx hu|intro h|refine Spp.mk ?_ ?_))
  all_goals first|omega|rfl
theorem X6(d:Option Dk)(hd:Xg d)(n:Int):FnC Tryz.prog 113 [.d (Qd d),.d (.it .i64 n)] (.dg 4 (Xe (QI (rdS d) n))):=by
 by_cases h:0≤n∧n<24
 ·have ha:=QP4 d hd (17+n)
  have hi:=QMC (rdS d (17+n)) (Xh hd _)
  rw[QCA]at hi
  rw[show QI (rdS d) n=JL (rdS d (17+n))from if_pos h]
  refine QL QRt ?_
  (repeat' ((conv=>whnf);first|refine cEk ha ?_|refine cEk hi ?_|refine QB ?_|intro x hx hu|intro h|refine Spp.mk ?_ ?_))
  rfl
 ·rw [show QI (rdS d) n=Q6 from if_neg h]
  refine QL QRt ?_
  by_cases h0:n<0
  all_goals (repeat' ((conv=>whnf);first|refine QB ?_|intro x hx hu|intro h|refine Spp.mk ?_ ?_))
  all_goals first|omega|rfl
theorem ZT(m:List (List UInt8))(hm:Zx m)(n:Int):FnC Tryz.prog 85 [.d (Q1 m),.d (.it .i64 n)] (.dg 4 (Xe (QI (imS m) n))):=by
 by_cases h:0≤n∧n<24
 ·have ha:=QHH m hm (17+n) (by omega)
  have hi:=QHE (imS m (17+n)) (QBX hm _)
  rw[QCA]at hi
  rw[show QI (imS m) n=JL (imS m (17+n))from if_pos h]
  refine QL i85 ?_
  (repeat' ((conv=>whnf);first|refine cEk ha ?_|refine cEk hi ?_|refine QB ?_|intro x hx hu|intro h|refine Spp.mk ?_ ?_))
  rfl
 ·rw [show QI (imS m) n=Q6 from if_neg h]
  refine QL i85 ?_
  by_cases h0:n<0
  all_goals (repeat' ((conv=>whnf);first|refine QB ?_|intro x hx hu|intro h|refine Spp.mk ?_ ?_))
  all_goals first|omega|rfl
def XZ(f:Int→List UInt8)(n:Int):Prop:=n=0∨∃k:Nat,k<24∧(QI f k).u=true∧(QI f k).t=n
instance(f:Int→List UInt8)(n:Int):Decidable (XZ f n):=by unfold XZ;infer_instance
theorem QCk(m:List (List UInt8))(hm:Zx m)(n:Int):FnC Tryz.prog 132 [.d (Q1 m),.d (.it .i64 n)] (.d (.bl (decide (XZ (imS m) n)))):=by
 have he:=fun k=>ZT m hm k
 refine QL QTW ?_
 (repeat' ((conv=>whnf);first|refine QB ?_|intro x hx hu|intro h|refine Spp.mk ?_ ?_))
 conv=>whnf
 refine QU QA (fun k:Nat=>k≤24∧∀j:Nat,j<k→¬((QI (imS m) j).u=true∧(QI (imS m) j).t=n)) (fun k:Nat=>⟨[(0,.d (Q1 m)),(1,.d (.it .i64 n)),(5,.d (.it .i64 (k:Nat)))],[],0⟩) (fun k=>24-k) 0 ⟨z7 _,fun j hj=>by omega⟩ ⟨ai rfl (ai rfl (ai rfl trivial)),trivial,rfl⟩ ?_
 intro k ⟨k1,k2⟩
 rcases yh k 24 with hk|hk
 ·have hek:=he (k:Nat)
  cases hu:(QI (imS m) k).u with
  |false=>
   have hek':Xe (QI (imS m) k)=[.bl false,.it .i64 (QI (imS m) k).p,.st (QI (imS m) k).n,.it .i64 (QI (imS m) k).t]:=by rw[Xe,hu]
   rw[hek']at hek
   (repeat' ((conv=>whnf);first|refine cEk hek ?_|refine QB ?_|intro x hx hu|intro h|refine Spp.mk ?_ ?_))
   refine again (k+1) ⟨by omega,fun j hj=>?_⟩ (by dsimp only;omega) (ai rfl (ai rfl (ai (QQ (by omega)) trivial))) trivial rfl
   rcases yh j k with hjk|hjk
   ·exact k2 j hjk
   ·obtain rfl:j=k:=by omega
    rw[hu];simp
  |true=>
   have hek':Xe (QI (imS m) k)=[.bl true,.it .i64 (QI (imS m) k).p,.st (QI (imS m) k).n,.it .i64 (QI (imS m) k).t]:=by rw[Xe,hu]
   rw[hek']at hek
   (repeat' ((conv=>whnf);first|refine cEk hek ?_|refine QB ?_|intro x hx hu|intro h|refine Spp.mk ?_ ?_))
   ·exact QCh (.inr ⟨k,hk,hu,by assumption⟩)
   ·refine again (k+1) ⟨by omega,fun j hj=>?_⟩ (by dsimp only;omega) (ai rfl (ai rfl (ai (QQ (by omega)) trivial))) trivial rfl
    rcases yh j k with hjk|hjk
    ·exact k2 j hjk
    ·obtain rfl:j=k:=by omega
     exact fun hq=>(by assumption:¬_) hq.2
 ·(repeat' ((conv=>whnf);first|refine QB ?_|intro x hx hu|intro h|refine Spp.mk ?_ ?_))
  refine QL1 ?_
  rw[beq_iff_eq]
  refine⟨fun h=> .inl h,fun h=>h.elim id fun⟨j,hj,h1,h2⟩=>absurd ⟨h1,h2⟩ (k2 j (by omega))⟩
def YO:List UInt8:=[70,76,79,84,0,0,0,0,0,0,0,0,0,0,0,0,0,0,0,0,0,0,0,0,0,0,0,0,0,0,0,0]
theorem QCl:FnC Tryz.prog 101 [] (.dg 32 (QJ YO)):=by
 refine QL QTK ?_
 (repeat' ((conv=>whnf);first|with_reducible refine AtA.mk' ?_|refine QB ?_|intro x hx hu|intro h|refine Spp.mk ?_ ?_))
 rfl
theorem QMF:FnC Tryz.prog 154 [] (.dg 32 (QJ YO)):=by
 have hf:=QFx 0 4
 refine QL QTd ?_
 (repeat' ((conv=>whnf);first|((with_reducible refine QB0 ?_);refine JD.vec ?_)|((with_reducible refine JF ?_);refine OpX.conv QA rfl rfl (by with_unfolding_all exact rfl) (by with_unfolding_all exact rfl) (by with_unfolding_all exact rfl) (bll rfl) (by with_unfolding_all exact rfl) rfl (by with_unfolding_all exact rfl) rfl ?_)|refine cEk hf ?_|refine CallE.inl ?_|with_reducible refine CallI.inl QA QTp rfl ?_|with_reducible refine CallI.inl QA QR1 rfl ?_|with_reducible refine AtA.mk' ?_|refine QB ?_|intro x hx hu|intro h|refine Spp.mk ?_ ?_))
 rfl
def JN(m:List (List UInt8)):Prop:=m.length=65∧imS m 0=YO∧QEd (imS m 1)∧(QBW (imS m 1)).k=2
instance(m:List (List UInt8)):Decidable (JN m):=by unfold JN;infer_instance
theorem Y3{ty:Ty}(ha:ty.kd.agg=true)(hz:ty.size=32){s:List UInt8}(hs:s.length=32):ldD ty (QJ s)= .dg 32 (QJ s):=by
 unfold ldD
 rw[ha,cond_true,hz,yb (by rw[ZS,hs];exact zt _)]
theorem QF2{b:Bool}{A B:Prop}(h:Spl b A B):Spl b A B:=h
theorem QSM{b:Bool}(h:b=true):(!b)=false:=by rw[h];rfl
theorem QSN{b:Bool}(h:b=false):(!b)=true:=by rw[h];rfl
theorem QK2(m:List (List UInt8))(hm:Zx m):FnC Tryz.prog 100 [.d (Q1 m)] (.d (.bl (decide (JN m)))):=by
 have hml:(m.map QJ).length=m.length:=zb ..
 by_cases h:m.length=65
 ·obtain ⟨s0,hs0⟩:=Qy (l:=m) (k:=0) (by omega)
  obtain⟨s1,hs1⟩:=Qy (l:=m) (k:=1) (by omega)
  have l0:=hm s0 (yj hs0)
  have l1:=hm s1 (yj hs1)
  have e0:imS m 0=s0:=by unfold imS;rw[zk];show(m[0]?).getD _=_;rw[hs0];rfl
  have e1:imS m 1=s1:=by unfold imS;rw[zk];show(m[1]?).getD _=_;rw[hs1];rfl
  have hs0':m[(0:Int).toNat]? =some s0:=hs0
  have hs1':m[(1:Int).toNat]? =some s1:=hs1
  have hsup:=QMF
  have hi:=QHB s1 l1
  rw[QAK]at hi
  have hP:JN m↔(s0=YO∧QEd s1∧(QBW s1).k=2):=by unfold JN;rw[e0,e1];exact⟨fun q=>q.2,fun q=>⟨h,q⟩⟩
  have heq:=eqS s0 YO (by rw[l0];rfl)
  have hlk:=Zw s0 YO l0 rfl
  by_cases h0:s0=YO
  ·rw [decide_eq_true h0]at heq
   by_cases h1:QEd s1
   all_goals (
    first|rw[decide_eq_true h1]at hi|rw[decide_eq_false h1]at hi
    refine QL QQK ?_
    (repeat' ((conv=>whnf);first|with_reducible refine YN (x:=s0) (by omega) hs0' ?_|with_reducible refine YN (x:=s1) (by omega) hs1' ?_|((with_reducible refine ZC ?_);first|refine AtA.eq (Y3 rfl rfl l0) ?_|refine AtA.eq (Y3 rfl rfl l1) ?_)|refine ZQ.mk ⟨_,hsup,?_⟩|refine cEk hsup ?_|refine cEk hi ?_|refine ZM hlk ?_|((with_reducible refine QF2 ?_);refine Spl.no (QSM heq) ?_)|refine QB ?_|intro x hx hu|intro h|refine Spp.mk ?_ ?_))
    all_goals first|exact XH (fun q=>h1 (hP.1 q).2.1)|(refine QL1 ?_;rw[beq_iff_eq,hP];exact⟨fun q=>⟨h0,h1,q⟩,fun q=>q.2.2⟩)|skip)
  ·rw [decide_eq_false h0]at heq
   refine QL QQK ?_
   (repeat' ((conv=>whnf);first|with_reducible refine YN (x:=s0) (by omega) hs0' ?_|with_reducible refine YN (x:=s1) (by omega) hs1' ?_|((with_reducible refine ZC ?_);first|refine AtA.eq (Y3 rfl rfl l0) ?_|refine AtA.eq (Y3 rfl rfl l1) ?_)|refine ZQ.mk ⟨_,hsup,?_⟩|refine cEk hsup ?_|refine cEk hi ?_|refine ZM hlk ?_|((with_reducible refine QF2 ?_);refine Spl.yes (QSN heq) ?_)|refine QB ?_|intro x hx hu|intro h|refine Spp.mk ?_ ?_))
   all_goals exact XH (fun q=>h0 (hP.1 q).1)
 ·refine QL QQK ?_
  (repeat' ((conv=>whnf);first|refine QB ?_|intro x hx hu|intro h|refine Spp.mk ?_ ?_))
  all_goals first|omega|exact XH (fun q=>h q.1)
theorem QF3(m:List (List UInt8))(hm:Zx m):FnC Tryz.prog 74 [.d (Q1 m)] (.d (.bl (decide (JN m)))):=by
 have hml:(m.map QJ).length=m.length:=zb ..
 by_cases h:m.length=65
 ·obtain ⟨s0,hs0⟩:=Qy (l:=m) (k:=0) (by omega)
  obtain⟨s1,hs1⟩:=Qy (l:=m) (k:=1) (by omega)
  have l0:=hm s0 (yj hs0)
  have l1:=hm s1 (yj hs1)
  have e0:imS m 0=s0:=by unfold imS;rw[zk];show(m[0]?).getD _=_;rw[hs0];rfl
  have e1:imS m 1=s1:=by unfold imS;rw[zk];show(m[1]?).getD _=_;rw[hs1];rfl
  have hs0':m[(0:Int).toNat]? =some s0:=hs0
  have hs1':m[(1:Int).toNat]? =some s1:=hs1
  have hsup:=QCl
  have hi:=QCi s1 l1
  rw[QAK]at hi
  have hP:JN m↔(s0=YO∧QEd s1∧(QBW s1).k=2):=by unfold JN;rw[e0,e1];exact⟨fun q=>q.2,fun q=>⟨h,q⟩⟩
  have heq:=eqS s0 YO (by rw[l0];rfl)
  have hlk:=Zw s0 YO l0 rfl
  by_cases h0:s0=YO
  ·rw [decide_eq_true h0]at heq
   by_cases h1:QEd s1
   all_goals (
    first|rw[decide_eq_true h1]at hi|rw[decide_eq_false h1]at hi
    refine QL i74 ?_
    (repeat' ((conv=>whnf);first|with_reducible refine YN (x:=s0) (by omega) hs0' ?_|with_reducible refine YN (x:=s1) (by omega) hs1' ?_|((with_reducible refine ZC ?_);first|refine AtA.eq (Y3 rfl rfl l0) ?_|refine AtA.eq (Y3 rfl rfl l1) ?_)|refine ZQ.mk ⟨_,hsup,?_⟩|refine cEk hsup ?_|refine cEk hi ?_|refine ZM hlk ?_|((with_reducible refine QF2 ?_);refine Spl.no (QSM heq) ?_)|refine QB ?_|intro x hx hu|intro h|refine Spp.mk ?_ ?_))
    all_goals first|exact XH (fun q=>h1 (hP.1 q).2.1)|(refine QL1 ?_;rw[beq_iff_eq,hP];exact⟨fun q=>⟨h0,h1,q⟩,fun q=>q.2.2⟩)|skip)
  ·rw [decide_eq_false h0]at heq
   refine QL i74 ?_
   (repeat' ((conv=>whnf);first|with_reducible refine YN (x:=s0) (by omega) hs0' ?_|with_reducible refine YN (x:=s1) (by omega) hs1' ?_|((with_reducible refine ZC ?_);first|refine AtA.eq (Y3 rfl rfl l0) ?_|refine AtA.eq (Y3 rfl rfl l1) ?_)|refine ZQ.mk ⟨_,hsup,?_⟩|refine cEk hsup ?_|refine cEk hi ?_|refine ZM hlk ?_|((with_reducible refine QF2 ?_);refine Spl.yes (QSN heq) ?_)|refine QB ?_|intro x hx hu|intro h|refine Spp.mk ?_ ?_))
   all_goals exact XH (fun q=>h0 (hP.1 q).1)
 ·refine QL i74 ?_
  (repeat' ((conv=>whnf);first|refine QB ?_|intro x hx hu|intro h|refine Spp.mk ?_ ?_))
  all_goals first|omega|exact XH (fun q=>h q.1)
def Qx(g:Nat→UInt8):List UInt8:=[g 0,g 1,g 2,g 3,g 4,g 5,g 6,g 7,g 8,g 9,g 10,g 11,g 12,g 13,g 14,g 15,g 16,g 17,g 18,g 19,g 20,g 21,g 22,g 23,g 24,g 25,g 26,g 27,g 28,g 29,g 30,g 31]
theorem Zg{s:List UInt8}(h:s.length=32):∃g,s=Qx g:=by
 refine⟨fun i=>s.getD i 0,?_⟩
 refine ve (by rw[h];rfl) fun i h1 h2=>?_
 have h3:Qx (fun i=>s.getD i 0)=(List.range 32).map (fun i=>s.getD i 0):=rfl
 simp only[h3,zy,xy]
 rw[zk,zi h1];rfl
def QMG(w:Wr):List D:=[.it .i64 1]++Qn w++[.fs 2 []]
def okW(n:Nat)(w:Wr):Bool:=decide (0≤w.a∧w.a<n)
def wts(n:Nat)(ws:List Wr):List Wr:=(ws.filter (okW n)).map fun w=> {w with e:=0}
def QSO(m:List (List UInt8))(ws:List Wr):Option Dk:=if 1≤m.length∧m.length≤65 then some ⟨ws.length,m,wts m.length ws,(wts m.length ws).map QMG,0⟩else none
def QUI(ws:List Wr):Prop:=∀w∈ws,w.s.length=32
def Yx(d:Option Dk):List (List UInt8):=match d with
 |none=>[]
 |some dk=>(List.range dk.safe.length).map fun k:Nat=>rdS d (k:Nat)
theorem QOl{d:Option Dk}(h:Xg d):Zx (Yx d):=by
 intro s hs
 cases d with
 |none=>cases hs
 |some dk=>
  obtain⟨k,_,rfl⟩:=yf.1 hs
  exact Xh h _
theorem QQg{l:List D}{n:Nat}(h:l.length=n):XJ n 1 ([]++l++[])=[l]:=by
 show [([]++l++[]).take n]=_
 rw[xg,xf,yb (by omega)]
theorem QP5{sz n i a b:Nat}(h:a=b):AV.vx sz n i a=AV.vx sz n i b:=by rw[h]
theorem QQh{t sz:Nat}{a b:List (List D)}{f:Bool}(h:a=b):Ob.vec t sz a f=Ob.vec t sz b f:=by rw[h]
theorem QOm{L:List (List UInt8)}{s:List UInt8}{j k:Nat}(hj:j=k)(hk:k<L.length):(L.map QJ).take j++[QJ s]++(L.map QJ).drop (j+1)=(L.set k s).map QJ:=by
 subst hj
 rw[uz,if_pos hk,yc,wy,ug,u6,y5];rfl
def mtA(d:Option Dk)(i:Nat):S:=⟨[(0,.d (Qd d)),(3,.ts 32 (((List.range i).map fun k:Nat=>rdS d (k:Nat)).map QJ) 0),(7,.d (.it .i64 (i:Nat)))],[(0,.tail 37 true)],1⟩
theorem QDm(d:Option Dk)(hd:Xg d):FnC Tryz.prog 45 [.d (Qd d)] (.d (.bl (decide (JN (Yx d))))):=by
 have hm:=QK2 _ (QOl hd)
 have hil:(Yx d).length≤65:=by
  cases d with
  |none=>exact z7 _
  |some dk=>
   show((List.range dk.safe.length).map _).length≤65
   rw[zb,xl];exact hd.2.2.1
 have hhas:∀i:Nat,QHF d i↔i<(Yx d).length:=fun i=>by
  cases d with
  |none=>exact⟨fun h=>h.elim,fun h=>absurd h (Nat.not_lt_zero _)⟩
  |some dk=>
   show(0≤(i:Int)∧(i:Int)<dk.safe.length)↔i<((List.range dk.safe.length).map _).length
   rw[zb,xl];omega
 have himg:((List.range (Yx d).length).map fun k:Nat=>rdS d (k:Nat))=Yx d:=by
  cases d with
  |none=>rfl
  |some dk=>
   show((List.range ((List.range dk.safe.length).map _).length).map _)=_
   rw[zb,xl];rfl
 refine QL i45 ?_
 (repeat' ((conv=>whnf);first|refine QB ?_|intro x hx hu|intro h|refine Spp.mk ?_ ?_))
 conv=>whnf
 refine QU QA (fun i:Nat=>i≤(Yx d).length) (mtA d) (fun i=>66-i) 0 (z7 _) ⟨ai rfl (ai rfl (ai rfl trivial)),ai rfl trivial,rfl⟩ ?_
 intro i hi
 have hr:=QF1 d hd i
 have hlen:(((List.range i).map fun k:Nat=>rdS d (k:Nat)).map QJ).length=i:=by simp
 rcases yh i (Yx d).length with hlt|hge
 ·rw [show rdE d i=0 from if_pos ((hhas i).2 hlt)]at hr
  have hs:=Xh hd i
  have hrl:(List.range i).length=i:=xl
  (repeat' ((conv=>whnf);first|refine cEk hr ?_|((with_reducible refine letC_id ?_);refine Zr.mk ((QJ (rdS d i)).map AV.d) (Xf _) ?_)|((with_reducible refine ZC ?_);refine AtA.eq (Ql rfl rfl hs) ?_)|refine QB ?_|intro x hx hu|intro h|refine Spp.mk ?_ ?_))
  refine again (i+1) (by omega) (by dsimp only;omega) (ai rfl (ai (QAr ?_) (ai (QQ (by omega)) trivial))) (ai rfl trivial) rfl
  rw[vm,yc,yc]
  exact congrArg _ (QQg (by rw[ZS];exact hs))
 ·have hie:i=(Yx d).length:=by omega
  rw[show rdE d i=1 from if_neg (fun q=>by have:=(hhas i).1 q;omega)]at hr
  have hmi:FnC Tryz.prog 100 [.d (.fs 32 ((((List.range i).map fun k:Nat=>rdS d (k:Nat))).map QJ))] (.d (.bl (decide (JN (Yx d))))):=by rw[hie,himg];exact hm
  by_cases h65:i<65
  ·(repeat' ((conv=>whnf);first|refine cEk hr ?_|refine cEk hmi ?_|((with_reducible refine letC_id ?_);refine Zr.mk ((QJ (rdS d i)).map AV.d) (Xf _) ?_)|refine QB ?_|intro x hx hu|intro h|refine Spp.mk ?_ ?_))
   rfl
  ·(repeat' ((conv=>whnf);first|refine cEk hmi ?_|refine QB ?_|intro x hx hu|intro h|refine Spp.mk ?_ ?_))
   rfl
def QEe(m:List (List UInt8))(w:Wr):List (List UInt8):=if 0≤w.a∧w.a<m.length then m.set w.a.toNat w.s else m
def Zy(m:List (List UInt8))(ws:List Wr):List (List UInt8):=ws.foldl QEe m
theorem QMH(m:List (List UInt8))(w:Wr):(QEe m w).length=m.length:=by unfold QEe;split<;>simp
theorem JO(m:List (List UInt8)):∀ws:List Wr,(Zy m ws).length=m.length:=by
 intro ws
 induction ws generalizing m with
 |nil=>rfl
 |cons w t ih=>
  show(Zy (QEe m w) t).length=_
  rw[ih,QMH]
theorem QIq(m:List (List UInt8)){ws:List Wr}{i:Nat}{x:Wr}(hx:ws[i]? =some x):Zy m (ws.take (i+1))=QEe (Zy m (ws.take i)) x:=by
 unfold Zy
 rw[Qo hx,uv];rfl
def QEf(f:Int→List UInt8)(p:Int)(k:Nat):Prop:=(QI f k).u=true∧(QI f k).p=p∧(Qw f (QI f k).t).k≠0
instance(f:Int→List UInt8)(p:Int)(k:Nat):Decidable (QEf f p k):=by unfold QEf;infer_instance
def QAi(f:Int→List UInt8)(p:Int)(s:List UInt8)(k:Nat):Prop:=QEf f p k∧(QI f k).n=s
instance(f:Int→List UInt8)(p:Int)(s:List UInt8)(k:Nat):Decidable (QAi f p s k):=by unfold QAi;infer_instance
def Yy(f:Int→List UInt8)(p:Int)(s:List UInt8):Option Nat:=(List.range 24).find? fun k=>decide (QAi f p s k)
def JC(o:Option Nat):AV:=match o with
 |some k=> .tup [.d (.it .i64 (k:Nat)),.d (.bl true)]
 |none=> .tup [.d (.it .i64 0),.d (.bl false)]
theorem QE9{f:Int→List UInt8}{p:Int}{s:List UInt8}{k:Nat}(hk:k<24)(h:QAi f p s k)(hn:∀j:Nat,j<k→¬QAi f p s j):Yy f p s=some k:=by
 unfold Yy
 refine u7.2 ⟨decide_eq_true h,k,by simpa using hk,by simp,fun j hj=>?_⟩
 simp only[xy]
 simpa using hn j hj
theorem QFA{f:Int→List UInt8}{p:Int}{s:List UInt8}(hn:∀j:Nat,j<24→¬QAi f p s j):Yy f p s=none:=by
 unfold Yy
 rw[qc]
 intro j hj
 simpa using hn j (y4.1 hj)
def fdA(F1 F2:Func)(d:Option Dk)(p:Int)(s:List UInt8)(k:Nat):S:=⟨[(0,.yld 12),(1,.ptr 10 0),(5,.d (.it .i64 (k:Nat)))],
  [(12,rgL 11 F1),(11,.frame 30 [(1,.ptr 4 0),(2,.ptr 5 0),(3,.ptr 8 0)]),(10,.cells 1 [.d (Qd d)]),(8,.cells 1 [.yld 7]),(7,rgL 6 F2),(6,.frame 21 [(5,.ptr 0 0),(6,.ptr 1 0),(7,.ptr 2 0)]),
   (5,.cells 1 [.d (.it .i64 p)]),(4,.cells 1 [.d (Qd d)]),(2,.cells 1 [.d (.bl false)]),(1,.cells 1 [.d (.it .i64 0)]),(0,.cells 1 [.d (.st s)])],13⟩
theorem QJt(d:Option Dk)(hd:Xg d)(p:Int)(s:List UInt8):FnC Tryz.prog 112 [.d (Qd d),.d (.it .i64 p),.d (.st s)] (JC (Yy (rdS d) p s)):=by
 have he:=fun k=>X6 d hd k
 generalize hR:JC (Yy (rdS d) p s)=R
 have hRP:R.isP=true:=by rw[←hR];unfold JC;split<;>rfl
 refine FnC.intro QA Tryz.func112 rfl Tryz.ntmps112 Tryz.call112 rfl (bll rfl) hRP ?_
 (repeat' ((conv=>whnf);first|refine CallE.inl ?_|with_reducible refine CallI.inl QA QR3 rfl ?_|refine QB ?_|intro x hx hu|intro h|refine Spp.mk ?_ ?_))
 conv=>whnf
 refine YR.intro QA QSA rfl rfl ?_
 (repeat' ((conv=>whnf);first|refine CallE.inl ?_|with_reducible refine CallI.inl QA QSB rfl ?_|refine QB ?_|intro x hx hu|intro h|refine Spp.mk ?_ ?_))
 conv=>whnf
 refine YR.intro QA QSD rfl rfl ?_
 (repeat' ((conv=>whnf);first|refine QB ?_|intro x hx hu|intro h|refine Spp.mk ?_ ?_))
 conv=>whnf
 refine ZA.wk (τ:=fdA Tryz.f213 Tryz.f112 d p s 0) (Wk.enF (ai rfl (ai rfl (ai rfl trivial))) (by (repeat (first|exact trivial|refine ai (JH rfl (by with_unfolding_all exact rfl)) ?_|refine ai (JG (by with_unfolding_all exact rfl) (by (repeat (first|exact trivial|refine ai (by with_unfolding_all exact rfl) ?_)))) ?_))) rfl) ?_
 conv=>whnf
 refine ZB QA (fun k:Nat=>k≤24∧∀j:Nat,j<k→¬QAi (rdS d) p s j) (fdA Tryz.f213 Tryz.f112 d p s) (fun k=>24-k) 0 ⟨z7 _,fun j hj=>by omega⟩ (Wk.en ⟨ai rfl (ai rfl (ai rfl trivial)),(by (repeat (first|exact trivial|refine ai rfl ?_))),rfl⟩) ?_
 intro k hk0
 have k1:=hk0.1
 have k2:=hk0.2
 by_cases hk:k<24
 ·have hek:=he (k:Nat)
  have next:¬QAi (rdS d) p s k→∀j:Nat,j<k+1→¬QAi (rdS d) p s j:=fun hn j hj=>by
   rcases yh j k with hjk|hjk
   ·exact k2 j hjk
   ·obtain rfl:j=k:=by omega
    exact hn
  by_cases hu:(QI (rdS d) k).u=false
  ·have hek':Xe (QI (rdS d) k)=[.bl false,.it .i64 (QI (rdS d) k).p,.st (QI (rdS d) k).n,.it .i64 (QI (rdS d) k).t]:=by rw[Xe,hu]
   rw[hek']at hek
   (repeat' ((conv=>whnf);first|refine cEk hek ?_|refine QB ?_|intro x hx hu|intro h|refine Spp.mk ?_ ?_))
   refine⟨k+1,⟨by omega,next (fun q=>by rw[q.1.1]at hu;cases hu)⟩,by dsimp only;omega,Wk.enF (ai rfl (ai rfl (ai (QQ (by omega)) trivial))) (by (repeat (first|exact trivial|refine ai (JH rfl (by with_unfolding_all exact rfl)) ?_|refine ai (JG (by with_unfolding_all exact rfl) (by (repeat (first|exact trivial|refine ai (by with_unfolding_all exact rfl) ?_)))) ?_))) rfl⟩
  ·have hu':(QI (rdS d) k).u=true:=by simpa using hu
   have hek':Xe (QI (rdS d) k)=[.bl true,.it .i64 (QI (rdS d) k).p,.st (QI (rdS d) k).n,.it .i64 (QI (rdS d) k).t]:=by rw[Xe,hu']
   rw[hek']at hek
   have hin:=JM d hd (QI (rdS d) k).t
   (repeat' ((conv=>whnf);first|refine cEk hek ?_|refine cEk hin ?_|with_reducible refine QCO.intro QA (by with_unfolding_all exact rfl) (by with_unfolding_all exact rfl) (by with_unfolding_all exact rfl) ?_|refine QB ?_|intro x hx hu|intro h|refine Spp.mk ?_ ?_))
   ·have hv:JC (Yy (rdS d) p s)=JC (some k):=by rw[QE9 hk ⟨⟨hu',by assumption,by assumption⟩,by assumption⟩ k2]
    exact hv.symm.trans hR
   ·refine ⟨k+1,⟨by omega,next (fun q=>(by assumption:¬_) q.2)⟩,by dsimp only;omega,Wk.enF (ai rfl (ai rfl (ai (QQ (by omega)) trivial))) (by (repeat (first|exact trivial|refine ai (JH rfl (by with_unfolding_all exact rfl)) ?_|refine ai (JG (by with_unfolding_all exact rfl) (by (repeat (first|exact trivial|refine ai (by with_unfolding_all exact rfl) ?_)))) ?_))) rfl⟩
   ·refine ⟨k+1,⟨by omega,next (fun q=>q.1.2.2 (by assumption))⟩,by dsimp only;omega,Wk.enF (ai rfl (ai rfl (ai (QQ (by omega)) trivial))) (by (repeat (first|exact trivial|refine ai (JH rfl (by with_unfolding_all exact rfl)) ?_|refine ai (JG (by with_unfolding_all exact rfl) (by (repeat (first|exact trivial|refine ai (by with_unfolding_all exact rfl) ?_)))) ?_))) rfl⟩
   ·refine ⟨k+1,⟨by omega,next (fun q=>(by assumption:¬_) q.1.2.1)⟩,by dsimp only;omega,Wk.enF (ai rfl (ai rfl (ai (QQ (by omega)) trivial))) (by (repeat (first|exact trivial|refine ai (JH rfl (by with_unfolding_all exact rfl)) ?_|refine ai (JG (by with_unfolding_all exact rfl) (by (repeat (first|exact trivial|refine ai (by with_unfolding_all exact rfl) ?_)))) ?_))) rfl⟩
 ·(repeat' ((conv=>whnf);first|refine QB ?_|intro x hx hu|intro h|refine Spp.mk ?_ ?_))
  have hv:JC (Yy (rdS d) p s)=JC none:=by rw[QFA fun j hj=>k2 j (by omega)]
  exact hv.symm.trans hR
def Y4(l:List (List UInt8)):List (List UInt8):=l.mergeSort fun x y=>decide (x≤y)
def vS(l:List (List UInt8)):List (List D):=l.map fun z=>[.st z]
theorem QCB(l:List (List UInt8)):(Y4 l).length=l.length:=ko _
theorem QMI(t:Nat)(fl:Bool)(zs:List (List UInt8))(n:Nat)(hn:zs.length=n)(h0:0<n)(hsz:n<4611686018427387904):FnM Tryz.prog 174 true [.vx 1 0 0 n] (.vec t 1 (vS zs) fl) (.vec t 1 (vS (Y4 zs)) fl) (.tup []):=by
 subst hn
 exact FnM.ofRow (fun l:List UInt8=>Value.string ⟨l.toArray⟩) (fun z=> .st z) (fun F x=> .st _) (fun F x v h=>by cases h;rfl) (m:=none) (ko _) h0 (fun q h=>by cases h) Tryz.call174 (fun blk off cap w hH hb hc=>(Tryz.slices_Sort_string blk off cap zs w hH hb hsz).mono fun e w' h=>h)
theorem QHI(t:Nat)(fl:Bool)(n:Nat)(zs:List (List UInt8))(hn:zs.length=n)(h0:0<n)(hsz:n<4611686018427387904):FnM Tryz.prog 175 true [.vx 1 0 0 n] (.vec t 1 (vS zs) fl) (.vec t 1 (vS (Lib.compact zs++List.replicate (zs.length-(Lib.compact zs).length) [])) fl) (.vx 1 0 0 (Lib.compact zs).length):=by
 subst hn
 exact FnM.ofRow (fun l:List UInt8=>Value.string ⟨l.toArray⟩) (fun z=> .st z) (fun F x=> .st _) (fun F x v h=>by cases h;rfl) (m:=some (Lib.compact zs).length) (by have:=Lib.compact_length_le zs;simp;omega) h0 (fun q h=>by cases h;exact Lib.compact_length_le zs) Tryz.call175 (fun blk off cap w hH hb hc=>(Tryz.slices_Compact_string blk off cap zs w hH (by omega) hc).mono fun e w' ⟨h1,q,h2⟩=>⟨h1,q,#[],by rw[Go.Sort.grow_empty];exact h2⟩)
def Zv(f:Int→List UInt8)(p:Int)(k:Nat):List (List UInt8):=((List.range k).filter fun j=>decide (QEf f p j)).map fun j:Nat=>(QI f (j:Nat)).n
def nms(f:Int→List UInt8)(p:Int):List (List UInt8):=Lib.compact (Y4 (Zv f p 24))
theorem QDn(f:Int→List UInt8)(p:Int)(k:Nat):(Zv f p k).length≤k:=by
 unfold Zv
 rw[zb]
 exact x6 (jt _ _) (by rw[xl];exact zt _)
theorem QHJ{f:Int→List UInt8}{p:Int}{k:Nat}(h:QEf f p k):Zv f p (k+1)=Zv f p k++[(QI f (k:Nat)).n]:=by
 unfold Zv
 rw[vm,u9,yc]
 simp[h]
theorem QDH{f:Int→List UInt8}{p:Int}{k:Nat}(h:¬QEf f p k):Zv f p (k+1)=Zv f p k:=by
 unfold Zv
 rw[vm,u9,yc]
 simp[h]
def lsA(F1 F2:Func)(d:Option Dk)(p:Int)(k:Nat)(L:List (List UInt8)):S:=⟨[(0,.yld 11),(1,.ptr 9 0),(5,.d (.it .i64 (k:Nat)))],
  [(11,rgL 10 F1),(10,.frame 30 [(1,.ptr 3 0),(2,.ptr 4 0),(3,.ptr 7 0)]),(9,.cells 1 [.d (Qd d)]),(7,.cells 1 [.yld 6]),(6,rgL 5 F2),(5,.frame 23 [(5,.ptr 1 0)]),
   (4,.cells 1 [.d (.it .i64 p)]),(3,.cells 1 [.d (Qd d)]),(1,.cells 1 [.vx 1 12 0 L.length]),(12,.vec 9 1 (vS L) false)],13⟩
theorem QJu{N:Nat}{σ τ τ':S}(e:τ'=τ)(h:Wk N σ τ'):Wk N σ τ:=by rw[←e];exact h
theorem QOn{e:List (List D)}{K:List (List D)→Prop}(h:Yq e K):Yq e K:=h
theorem QOo{e:Nat}{K:Nat→Prop}(h:XE e K):XE e K:=h
theorem QQi{L:List (List UInt8)}{x:List UInt8}{n:Nat}(h:n=L.length):(vS L).take n++[[.st x]]=vS (L++[x]):=by
 subst h
 unfold vS
 rw[yb (by rw[zb];exact zt _),yc];rfl
theorem QOp(d:Option Dk)(hd:Xg d)(p:Int):FnC Tryz.prog 128 [.d (Qd d),.d (.it .i64 p)] (.d (.fs 1 (vS (nms (rdS d) p)))):=by
 have he:=fun k=>X6 d hd k
 refine QL QTU ?_
 (repeat' ((conv=>whnf);first|refine CallE.inl ?_|with_reducible refine CallI.inl QA QR3 rfl ?_|refine QB ?_|intro x hx hu|intro h|refine Spp.mk ?_ ?_))
 conv=>whnf
 refine YR.intro QA QSA rfl rfl ?_
 (repeat' ((conv=>whnf);first|refine CallE.inl ?_|with_reducible refine CallI.inl QA QSB rfl ?_|refine QB ?_|intro x hx hu|intro h|refine Spp.mk ?_ ?_))
 conv=>whnf
 refine YR.intro QA QSD rfl rfl ?_
 (repeat' ((conv=>whnf);first|refine QB ?_|intro x hx hu|intro h|refine Spp.mk ?_ ?_))
 conv=>whnf
 refine ZA.wk (Wk.nlVx 1 0 1 1 9 (by with_unfolding_all exact rfl) (by with_unfolding_all exact rfl)) ?_
 refine ZA.wk (τ:=lsA Tryz.f213 Tryz.f128 d p 0 []) (Wk.enF (ai rfl (ai rfl (ai rfl trivial))) (by (repeat (first|exact trivial|refine ai (JH rfl (by with_unfolding_all exact rfl)) ?_|refine ai (JG (by with_unfolding_all exact rfl) (by (repeat (first|exact trivial|refine ai (by with_unfolding_all exact rfl) ?_)))) ?_))) rfl) ?_
 conv=>whnf
 refine ZB QA (fun k:Nat=>k≤24) (fun k:Nat=>lsA Tryz.f213 Tryz.f128 d p k (Zv (rdS d) p k)) (fun k=>24-k) 0 (z7 _) (Wk.en ⟨ai rfl (ai rfl (ai rfl trivial)),(by (repeat (first|exact trivial|refine ai rfl ?_))),rfl⟩) ?_
 intro k k1
 by_cases hk:k<24
 ·have hek:=he (k:Nat)
  have hln:=QDn (rdS d) p k
  have hlv:(vS (Zv (rdS d) p k)).length=(Zv (rdS d) p k).length:=zb ..
  by_cases hu:(QI (rdS d) k).u=false
  ·have hek':Xe (QI (rdS d) k)=[.bl false,.it .i64 (QI (rdS d) k).p,.st (QI (rdS d) k).n,.it .i64 (QI (rdS d) k).t]:=by rw[Xe,hu]
   rw[hek']at hek
   have hno:Zv (rdS d) p (k+1)=Zv (rdS d) p k:=QDH (fun q=>by rw[q.1]at hu;cases hu)
   (repeat' ((conv=>whnf);first|refine cEk hek ?_|refine QB ?_|intro x hx hu|intro h|refine Spp.mk ?_ ?_))
   refine⟨k+1,by omega,by dsimp only;omega,QJu (congrArg (lsA Tryz.f213 Tryz.f128 d p (k+1)) hno.symm) (Wk.enF (ai rfl (ai rfl (ai (QQ (by omega)) trivial))) (by (repeat (first|exact trivial|refine ai (JH rfl (by with_unfolding_all exact rfl)) ?_|refine ai (JG (by with_unfolding_all exact rfl) (by (repeat (first|exact trivial|refine ai (by with_unfolding_all exact rfl) ?_)))) ?_))) rfl)⟩
  ·have hu':(QI (rdS d) k).u=true:=by simpa using hu
   have hek':Xe (QI (rdS d) k)=[.bl true,.it .i64 (QI (rdS d) k).p,.st (QI (rdS d) k).n,.it .i64 (QI (rdS d) k).t]:=by rw[Xe,hu']
   rw[hek']at hek
   have hin:=JM d hd (QI (rdS d) k).t
   (repeat' ((conv=>whnf);first|refine cEk hek ?_|refine cEk hin ?_|with_reducible refine QCO.intro QA (by with_unfolding_all exact rfl) (by with_unfolding_all exact rfl) (by with_unfolding_all exact rfl) ?_|((with_reducible refine QOn ?_);refine Yq.mk (vS (Zv (rdS d) p k++[(QI (rdS d) k).n])) (QQi rfl).symm ?_)|((with_reducible refine QOo ?_);refine XE.eq (Zv (rdS d) p k++[(QI (rdS d) k).n]).length (by rw[zj];rfl) ?_)|refine QB ?_|intro x hx hu|intro h|refine Spp.mk ?_ ?_))
   ·have hyes:=QHJ (f:=rdS d) (p:=p) (k:=k) ⟨hu',by assumption,by assumption⟩
    refine⟨k+1,by omega,by dsimp only;omega,QJu (congrArg (lsA Tryz.f213 Tryz.f128 d p (k+1)) hyes.symm) (Wk.enF (ai rfl (ai rfl (ai (QQ (by omega)) trivial))) (by (repeat (first|exact trivial|refine ai (JH rfl (by with_unfolding_all exact rfl)) ?_|refine ai (JG (by with_unfolding_all exact rfl) (by (repeat (first|exact trivial|refine ai (by with_unfolding_all exact rfl) ?_)))) ?_))) rfl)⟩
   ·have hno:Zv (rdS d) p (k+1)=Zv (rdS d) p k:=QDH (fun q=>q.2.2 (by assumption))
    refine⟨k+1,by omega,by dsimp only;omega,QJu (congrArg (lsA Tryz.f213 Tryz.f128 d p (k+1)) hno.symm) (Wk.enF (ai rfl (ai rfl (ai (QQ (by omega)) trivial))) (by (repeat (first|exact trivial|refine ai (JH rfl (by with_unfolding_all exact rfl)) ?_|refine ai (JG (by with_unfolding_all exact rfl) (by (repeat (first|exact trivial|refine ai (by with_unfolding_all exact rfl) ?_)))) ?_))) rfl)⟩
   ·have hno:Zv (rdS d) p (k+1)=Zv (rdS d) p k:=QDH (fun q=>(by assumption:¬_) q.2.1)
    refine⟨k+1,by omega,by dsimp only;omega,QJu (congrArg (lsA Tryz.f213 Tryz.f128 d p (k+1)) hno.symm) (Wk.enF (ai rfl (ai rfl (ai (QQ (by omega)) trivial))) (by (repeat (first|exact trivial|refine ai (JH rfl (by with_unfolding_all exact rfl)) ?_|refine ai (JG (by with_unfolding_all exact rfl) (by (repeat (first|exact trivial|refine ai (by with_unfolding_all exact rfl) ?_)))) ?_))) rfl)⟩
 ·have hk24:k=24:=by omega
  have hln:=QDn (rdS d) p k
  have hR:nms (rdS d) p=Lib.compact (Y4 (Zv (rdS d) p k)):=by unfold nms;rw[hk24]
  by_cases hL:(Zv (rdS d) p k).length=0
  ·have hnil:Zv (rdS d) p k=[]:=yv.1 hL
   have hR0:nms (rdS d) p=[]:=by
    rw[hR,hnil]
    exact yv.1 (Nat.le_zero.1 (by have:=Lib.compact_length_le (Y4 ([]:List (List UInt8)));rw[QCB]at this;exact this))
   (repeat' ((conv=>whnf);first|refine CallE.inl ?_|refine CallI.none0 Tryz.call174 Tryz.slices_Sort_string_none (by with_unfolding_all exact rfl) hL ?_|refine CallI.same0 Tryz.call175 Tryz.slices_Compact_string_empty (by with_unfolding_all exact rfl) hL ?_|refine QB ?_|intro x hx hu|intro h|refine Spp.mk ?_ ?_))
   refine QQE ?_
   rw[hR0,hnil];rfl
  ·have hpos:0<(Zv (rdS d) p k).length:=by omega
   have hcl:(Lib.compact (Y4 (Zv (rdS d) p k))).length≤(Y4 (Zv (rdS d) p k)).length:=Lib.compact_length_le _
   (repeat' ((conv=>whnf);first|refine CallE.inl ?_|refine CallI.byM (QMI 9 false (Zv (rdS d) p k) _ rfl hpos (by omega)) (by with_unfolding_all exact rfl) rfl ?_|refine CallI.byM (QHI 9 false (Zv (rdS d) p k).length (Y4 (Zv (rdS d) p k)) (QCB _) hpos (by omega)) (by with_unfolding_all exact rfl) rfl ?_|refine QB ?_|intro x hx hu|intro h|refine Spp.mk ?_ ?_))
   refine ai ?_ ?_
   ·show 0+(Lib.compact (Y4 (Zv (rdS d) p k))).length≤(vS (Lib.compact (Y4 (Zv (rdS d) p k))++_)).length
    unfold vS
    rw[zb,zj];omega
   ·(repeat' ((conv=>whnf);first|refine QB ?_|intro x hx hu|intro h|refine Spp.mk ?_ ?_))
    refine QQE ?_
    rw[hR]
    show(List.drop 0 (vS (_++_))).take _=_
    unfold vS
    rw[vr,yc,Wi (zb ..)]
def J1(f:Int→List UInt8)(n:Int)(s:List UInt8):Int×Int:=if(Qw f n).k=2 then(match Yy f n s with|none=>(0,4)|some k=>((QI f (k:Nat)).t,0))else(0,6)
def QAn(x:Int×Int):AV:= .tup [.d (.it .i64 x.1),.d (.it .i64 x.2)]
theorem QOq(d:Option Dk)(hd:Xg d)(n:Int)(s:List UInt8):FnC Tryz.prog 54 [.d (Qd d),.d (.it .i64 n),.d (.st s)] (QAn (J1 (rdS d) n s)):=by
 have hi:=JM d hd n
 have hf:=QJt d hd n s
 unfold J1
 by_cases h2:(Qw (rdS d) n).k=2
 ·rw [if_pos h2]
  cases hk:Yy (rdS d) n s with
  |none=>
   rw[hk,JC]at hf
   refine QL i54 ?_
   (repeat' ((conv=>whnf);first|refine cEk hi ?_|refine cEk hf ?_|refine QB ?_|intro x hx hu|intro h|refine Spp.mk ?_ ?_))
   rfl
  |some k=>
   rw[hk,JC]at hf
   have he:=X6 d hd (k:Nat)
   refine QL i54 ?_
   (repeat' ((conv=>whnf);first|refine cEk hi ?_|refine cEk hf ?_|refine cEk he ?_|refine QB ?_|intro x hx hu|intro h|refine Spp.mk ?_ ?_))
   rfl
 ·rw [if_neg h2]
  refine QL i54 ?_
  (repeat' ((conv=>whnf);first|refine cEk hi ?_|refine QB ?_|intro x hx hu|intro h|refine Spp.mk ?_ ?_))
  rfl
def lkp(f:Int→List UInt8):List (List UInt8)→Int→Int×Int
 |[],n=>(n,0)
 |s::t,n=>if(J1 f n s).2=0 then lkp f t (J1 f n s).1 else(0,(J1 f n s).2)
def ZI(f:Int→List UInt8)(p:List UInt8):Int×Int:=if(QO p).2=0 then lkp f (QO p).1 0 else(0,(QO p).2)
def lkI(f:Int→List UInt8)(ns:List (List UInt8))(r:Int×Int)(x:Nat×Int):Prop:=x.1≤ns.length∧lkp f (ns.drop x.1) x.2=r
theorem QIr{p:List UInt8}(h:¬(QO p).2=0):(QO p).1=[]:=by
 unfold QO at h⊢
 split
 ·rfl
 ·rename_i h1
  rw[if_neg h1]at h
  cases p with
  |nil=>rfl
  |cons b r=>
   simp only at h⊢
   split
   ·rename_i h2
    rw[if_pos h2]at h
    split
    ·rename_i h3;rw[if_pos h3]at h;exact(h rfl).elim
    ·rfl
   ·rfl
theorem ZX(p:List UInt8):(QO p).1.length≤4:=by
 unfold QO
 split
 ·exact z7 _
 ·split
  ·exact z7 _
  ·split
   ·split
    ·rename_i h3;exact h3.1
    ·exact z7 _
   ·exact z7 _
theorem QCC(d:Option Dk)(hd:Xg d)(p:List UInt8)(hp:p.length≤100000):FnC Tryz.prog 13 [.d (Qd d),.d (.st p)] (QAn (ZI (rdS d) p)):=by
 have hs:=Z7 p hp
 have hst:=fun n s=>QOq d hd n s
 generalize hR:ZI (rdS d) p=R
 unfold ZI at hR
 have hN:(QO p).1.map stL=(QO p).1.map stL:=rfl
 unfold QC4 at hs
 by_cases he:(QO p).2=0
 ·rw [if_pos he]at hR
  rw[he]at hs
  have hnb:=ZX p
  generalize hns:(QO p).1=ns at hs hR hnb
  have hnl:(ns.map stL).length=ns.length:=zb ..
  refine QL i13 ?_
  (repeat' ((conv=>whnf);first|refine cEk hs ?_|refine QB ?_|intro x hx hu|intro h|refine Spp.mk ?_ ?_))
  conv=>whnf
  refine QU QA (lkI (rdS d) ns R) (fun x=>⟨[(0,.d (Qd d)),(7,.d (.it .i64 0)),(8,.d (.it .i64 x.2)),(16,.d (.fs 1 (ns.map stL))),(17,.d (.it .i64 (ns.length:Nat))),(18,.d (.it .i64 (x.1:Nat)))],[],0⟩) (fun x=>ns.length-x.1) (0,0) ⟨z7 _,by rw[vr];exact hR⟩ ⟨ai rfl (ai rfl (ai rfl (ai rfl (ai (QQ (by rw[hnl])) (ai rfl trivial))))),trivial,rfl⟩ ?_
  intro x hx
  have x1:=hx.1
  have x2:=hx.2
  by_cases hk:x.1<ns.length
  ·have hsx:=hst x.2 ns[x.1]
   have hget:ns[x.1]? =some ns[x.1]:=zi hk
   rw[wn hk,lkp]at x2
   unfold QAn at hsx
   by_cases hz:(J1 (rdS d) x.2 ns[x.1]).2=0
   ·rw [if_pos hz]at x2
    rw[hz]at hsx
    (repeat' ((conv=>whnf);first|refine cEk hsx ?_|with_reducible refine Zu hget ?_|refine QB ?_|intro x hx hu|intro h|refine Spp.mk ?_ ?_))
    refine again (x.1+1,(J1 (rdS d) x.2 ns[x.1]).1) ⟨hk,x2⟩ (by dsimp only;omega) (ai rfl (ai rfl (ai rfl (ai rfl (ai rfl (ai (QQ (by dsimp only;omega)) trivial)))))) trivial rfl
   ·rw [if_neg hz]at x2
    (repeat' ((conv=>whnf);first|refine cEk hsx ?_|with_reducible refine Zu hget ?_|refine QB ?_|intro x hx hu|intro h|refine Spp.mk ?_ ?_))
    all_goals first|(exact congrArg QAn x2)|(exfalso;exact hz (by assumption))
  ·have hd0:ns.drop x.1=[]:=vf (by omega)
   rw[hd0,lkp]at x2
   (repeat' ((conv=>whnf);first|refine QB ?_|intro x hx hu|intro h|refine Spp.mk ?_ ?_))
   exact congrArg QAn x2
 ·rw [if_neg he]at hR
  rw[QIr he]at hs
  refine QL i13 ?_
  (repeat' ((conv=>whnf);first|refine cEk hs ?_|with_reducible refine ZA.unroll QA 1 ?_|refine QB ?_|intro x hx hu|intro h|refine Spp.mk ?_ ?_))
  exact congrArg QAn hR
theorem QHK(n:Int)(l:List Wr)(x:Wr):YM n (l++[x])=if x.a=n then some x.s else YM n l:=by
 unfold YM
 rw[List.reverse_append]
 simp only[List.reverse_cons,List.reverse_nil,xg,kp,Wj]
 by_cases h:x.a=n
 ·simp [h]
 ·simp [h]
theorem QHL{m:List (List UInt8)}(hm:Zx m):∀ {ws:List Wr},QUI ws→Zx (Zy m ws):=by
 intro ws
 induction ws generalizing m with
 |nil=>intro _;exact hm
 |cons x t ih=>
  intro hw
  refine ih (m:=QEe m x) (fun s hs=>?_) (fun w hw'=>hw w (zr _ hw'))
  unfold QEe at hs
  split at hs
  ·rcases ux hs with hs|rfl
   ·exact hm s hs
   ·exact hw x zu
  ·exact hm s hs
theorem X7{f g:Int→List UInt8}(h:∀n:Int,0≤n→f n=g n)(n:Int):Qw f n=Qw g n:=by
 unfold Qw
 split
 ·rw [h _ (by omega)]
 ·rfl
theorem Yi{f g:Int→List UInt8}(h:∀n:Int,0≤n→f n=g n)(n:Int):QI f n=QI g n:=by
 unfold QI
 split
 ·rw [h _ (by omega)]
 ·rfl
def wrD(d:Dk)(w:Wr):Dk:=⟨d.nx+1,d.safe,d.wait++[{w with e:=d.ep}],d.log++[QMG {w with e:=d.ep}],d.ep⟩
def w0:Wr:=⟨0,Qh,0,0,0⟩
def QMJ(m:List (List D×D))(n:Int):List (List D×D):=QCe m [.it .i64 n] (.it .i64 1)
def QAx(l:List Int):List (List D×D):=l.foldl QMJ []
def gt0(m:List (List D×D))(n:Int):D:=match QCd m [.it .i64 n]with|some v=>v|none=> .it .i64 0
theorem QOr(a b:Int):QCc [.it .i64 a] [.it .i64 b]=decide (a=b):=by
 show((a==b)&&true)=_
 rw[wo];rfl
theorem QHM:∀(m:List (List D×D)) (hm:∀p∈m,∃a,p.1=[D.it .i64 a]) (x n:Int),gt0 (QMJ m x) n=if n=x then .it .i64 1 else gt0 m n
 |[],_,x,n=>by
  unfold gt0 QMJ
  simp only[QCe,QCd,QOr]
  by_cases h:n=x
  ·rw [if_pos h,decide_eq_true h.symm];rfl
  ·rw [if_neg h,decide_eq_false (fun e=>h e.symm)];rfl
 |(k,u)::t,hm,x,n=>by
  obtain⟨a,rfl⟩:=hm _ zu
  have ih:=QHM t (fun p hp=>hm p (zr _ hp)) x n
  unfold gt0 QMJ at ih⊢
  simp only[QCe,QCd,QOr]
  by_cases ha:a=x
  ·subst ha
   rw[decide_eq_true rfl,cond_true]
   simp only[QCd,QOr]
   by_cases h:n=a
   ·rw [if_pos h,decide_eq_true h.symm];rfl
   ·rw [if_neg h,decide_eq_false (fun e=>h e.symm)];rfl
  ·rw [decide_eq_false ha,cond_false]
   simp only[QCd,QOr]
   by_cases han:a=n
   ·rw [decide_eq_true han,cond_true,cond_true,if_neg (fun e=>ha (by omega))]
   ·rw [decide_eq_false han,cond_false,cond_false];exact ih
theorem QFB:∀(m:List (List D×D)) (hm:∀p∈m,∃a,p.1=[D.it .i64 a]) (x:Int) (v:D),∀p∈QCe m [.it .i64 x] v,∃a,p.1=[D.it .i64 a]
 |[],_,x,v,p,hp=>by
  rw[yy.1 hp];exact⟨x,rfl⟩
 |(k,u)::t,hm,x,v,p,hp=>by
  simp only[QCe]at hp
  cases hq:QCc k [.it .i64 x]with
  |true=>
   rw[hq,cond_true]at hp
   rcases zm.1 hp with rfl|hp
   ·exact ⟨x,rfl⟩
   ·exact hm p (zr _ hp)
  |false=>
   rw[hq,cond_false]at hp
   rcases zm.1 hp with rfl|hp
   ·exact hm _ zu
   ·exact QFB t (fun p hp=>hm p (zr _ hp)) x v p hp
theorem QFC(l:List Int)(x:Int):QAx (l++[x])=QMJ (QAx l) x:=by unfold QAx;rw[uv];rfl
theorem QOs(l:List Int):(∀p∈QAx l,∃a,p.1=[D.it .i64 a])∧∀n,gt0 (QAx l) n= .it .i64 (if n∈l then 1 else 0):=by
 have key:∀k,k≤l.length→(∀p∈QAx (l.take k),∃a,p.1=[D.it .i64 a])∧∀n,gt0 (QAx (l.take k)) n= .it .i64 (if n∈l.take k then 1 else 0):=by
  intro k
  induction k with
  |zero=>intro _;refine⟨fun p hp=>?_,fun n=>rfl⟩;cases hp
  |succ k ih=>
   intro hk
   obtain⟨h1,h2⟩:=ih (by omega)
   obtain⟨x,hx⟩:=Qy (show k<l.length by omega)
   rw[Qo hx,QFC]
   refine⟨fun p hp=>QFB _ h1 x _ p hp,fun n=>?_⟩
   rw[QHM _ h1,h2]
   by_cases h:n=x
   ·rw [if_pos h,if_pos (by simp[h])]
   ·rw [if_neg h]
    by_cases hn:n∈l.take k
    ·rw [if_pos hn,if_pos (vl _ hn)]
    ·rw [if_neg hn,if_neg (fun hm=>by
      rcases yd.1 hm with hm|hm
      ·exact hn hm
      ·exact h (yy.1 hm))]
 have:=key l.length (zt _)
 rwa [vd]at this
def bd(l:List Int)(n:Int):Int:=if n∈l then 1 else 0
theorem QDI(l:List Int)(n:Int):(match QCd (QAx l) [.it .i64 n]with|some v=>v|none=> .it .i64 0)=D.it .i64 (bd l n):=(QOs l).2 n
def tk(d:Dk):Dk:=⟨d.nx+1,d.safe,d.wait,d.log,d.ep⟩
inductive Stp where
 |wr(w:Wr)
 |bar
def evB:List D:=[.it .i64 3]++Qn w0++[.fs 2 []]
def Yj(d:Dk):Dk:=⟨d.nx+1,d.safe,d.wait,d.log++[evB],d.ep+1⟩
def Qt(bad:List Int):Dk→List Stp→Dk×Int
 |d,[]=>(d,0)
 |d,.wr w::t=>if d.nx∈bad then(tk d,3)else Qt bad (wrD d w) t
 |d,.bar::t=>if d.nx∈bad then(tk d,3)else Qt bad (Yj d) t
def Yk(b:Bool)(bad:List Int)(d:Dk):List (Nat×Ob):=[(0,.cells 6 [.mp 3,.d (.it .i64 d.nx),.vx 32 4 0 d.safe.length,.ts 36 (d.wait.map Qn) 1,.ts 38 d.log 2,.d (.it .i64 d.ep)]),(1,.tail 49 true),(2,.tail 110 true),(3,.mp b false [.it .i64 0] (QAx bad)),(4,.vec 37 32 (d.safe.map QJ) false)]
theorem QJv{q r u n l:Nat}{a b c e:List (List D)}{x y p p':Int}(h3:x=y)(h1:a=b)(h2:c=e)(h4:p=p'):Ob.cells 6 [.mp u,.d (.it .i64 x),.vx 32 n 0 l,.ts 36 a q,.ts 38 c r,.d (.it .i64 p)]=Ob.cells 6 [.mp u,.d (.it .i64 y),.vx 32 n 0 l,.ts 36 b q,.ts 38 e r,.d (.it .i64 p')]:=by rw[h1,h2,h3,h4]
structure DB(d:Dk)(N:Nat):Prop where
 nx:0≤d.nx∧d.nx≤N
 w:d.wait.length≤N
 l:d.log.length≤N
 s:d.safe.length≤65
 s0:d.safe.length≠0
theorem QQj(b:Bool)(bad:List Int)(d:Dk)(a:Int)(s:List UInt8)(hs:s.length=32)(k i:Int)(hb:DB d 1000000)(ha:0≤a∧a<d.safe.length):
  FnH Tryz.prog 148 [.ptr 0 0,.d (.it .i64 a),.dg 32 (QJ s),.dg 2 [.it .i64 k,.it .i64 i]] (Yk b bad d) 5 [0] (.d (.it .i64 (if d.nx∈bad then 3 else 0))) (Yk b bad (if d.nx∈bad then tk d else wrD d ⟨a,s,k,i,0⟩)) 5:=by
 obtain⟨hn,hw,hlg,hsl,hs0⟩:=hb
 obtain⟨g,rfl⟩:=Zg hs
 have hl1:(d.safe.map QJ).length=d.safe.length:=zb ..
 have hl2:(d.wait.map Qn).length=d.wait.length:=zb ..
 by_cases hbad:d.nx∈bad
 all_goals first|rw[if_pos hbad,if_pos hbad]|rw[if_neg hbad,if_neg hbad]
 ·have hb1:bd bad d.nx=1:=if_pos hbad
  refine QR QRx fun T=>?_
  (repeat' ((conv=>whnf);first|with_reducible refine AtA.mk' ?_|((with_reducible refine JF ?_);refine OpX.lookup (kx:= .it .i64 d.nx) rfl rfl Tryz.underlying89 Tryz.underlying3 rfl (fun w=>Tryz.zeroValue3 w) (fun F=> .it _ _) rfl rfl rfl rfl (QDI bad d.nx) ?_)|refine CallE.inl ?_|with_reducible refine CallI.inl QA i57 rfl ?_|with_reducible refine CallI.inl QA i51 rfl ?_|with_reducible refine CallI.inl QA QOO rfl ?_|with_reducible refine CallI.inl QA QOP rfl ?_|((with_reducible refine QK ?_);first|refine QH QA mixed (by decide+kernel) ?_|refine QF QA mixed 0 (by decide+kernel) ?_)|refine QB ?_|intro x hx hu|intro h|refine Spp.mk ?_ ?_))
  all_goals first|(exfalso;omega)|skip
  refine QY rfl (ai (QJv rfl rfl rfl rfl) (ai rfl (ai rfl (ai rfl (ai rfl trivial))))) (ai rfl (ai rfl trivial))
 ·have hb1:bd bad d.nx=0:=if_neg hbad
  refine QR QRx fun T=>?_
  (repeat' ((conv=>whnf);first|with_reducible refine AtA.mk' ?_|((with_reducible refine JF ?_);refine OpX.lookup (kx:= .it .i64 d.nx) rfl rfl Tryz.underlying89 Tryz.underlying3 rfl (fun w=>Tryz.zeroValue3 w) (fun F=> .it _ _) rfl rfl rfl rfl (QDI bad d.nx) ?_)|refine CallE.inl ?_|with_reducible refine CallI.inl QA i57 rfl ?_|with_reducible refine CallI.inl QA i51 rfl ?_|with_reducible refine CallI.inl QA QOO rfl ?_|with_reducible refine CallI.inl QA QOP rfl ?_|((with_reducible refine QK ?_);first|refine QH QA mixed (by decide+kernel) ?_|refine QF QA mixed 0 (by decide+kernel) ?_)|refine QB ?_|intro x hx hu|intro h|refine Spp.mk ?_ ?_))
  all_goals first|(exfalso;omega)|skip
  refine QY rfl (ai (QJv rfl ?_ rfl rfl) (ai rfl (ai rfl (ai rfl (ai rfl trivial))))) (ai rfl (ai rfl trivial))
  show _=(d.wait++[_]).map Qn
  rw[yc];rfl
theorem QOt(b:Bool)(bad:List Int)(d:Dk)(hb:DB d 1000000)(he:d.ep≤1000000∧ -1000000≤d.ep):
  FnH Tryz.prog 62 [.ptr 0 0] (Yk b bad d) 5 [0] (.d (.it .i64 (if d.nx∈bad then 3 else 0))) (Yk b bad (if d.nx∈bad then tk d else Yj d)) 5:=by
 obtain⟨hn,hw,hlg,hsl,hs0⟩:=hb
 have hl1:(d.safe.map QJ).length=d.safe.length:=zb ..
 by_cases hbad:d.nx∈bad
 all_goals first|rw[if_pos hbad,if_pos hbad]|rw[if_neg hbad,if_neg hbad]
 ·have hb1:bd bad d.nx=1:=if_pos hbad
  refine QR i62 fun T=>?_
  (repeat' ((conv=>whnf);first|with_reducible refine AtA.mk' ?_|((with_reducible refine JF ?_);refine OpX.lookup (kx:= .it .i64 d.nx) rfl rfl Tryz.underlying89 Tryz.underlying3 rfl (fun w=>Tryz.zeroValue3 w) (fun F=> .it _ _) rfl rfl rfl rfl (QDI bad d.nx) ?_)|refine CallE.inl ?_|with_reducible refine CallI.inl QA i57 rfl ?_|with_reducible refine CallI.inl QA QOO rfl ?_|with_reducible refine CallI.inl QA QOP rfl ?_|((with_reducible refine QK ?_);first|refine QH QA mixed (by decide+kernel) ?_|refine QF QA mixed 0 (by decide+kernel) ?_)|refine QB ?_|intro x hx hu|intro h|refine Spp.mk ?_ ?_))
  all_goals first|(exfalso;omega)|skip
  refine QY rfl (ai (QJv rfl rfl rfl rfl) (ai rfl (ai rfl (ai rfl (ai rfl trivial))))) (ai rfl (ai rfl trivial))
 ·have hb1:bd bad d.nx=0:=if_neg hbad
  refine QR i62 fun T=>?_
  (repeat' ((conv=>whnf);first|with_reducible refine AtA.mk' ?_|((with_reducible refine JF ?_);refine OpX.lookup (kx:= .it .i64 d.nx) rfl rfl Tryz.underlying89 Tryz.underlying3 rfl (fun w=>Tryz.zeroValue3 w) (fun F=> .it _ _) rfl rfl rfl rfl (QDI bad d.nx) ?_)|refine CallE.inl ?_|with_reducible refine CallI.inl QA i57 rfl ?_|with_reducible refine CallI.inl QA QOO rfl ?_|with_reducible refine CallI.inl QA QOP rfl ?_|((with_reducible refine QK ?_);first|refine QH QA mixed (by decide+kernel) ?_|refine QF QA mixed 0 (by decide+kernel) ?_)|refine QB ?_|intro x hx hu|intro h|refine Spp.mk ?_ ?_))
  all_goals first|(exfalso;omega)|skip
  refine QY rfl (ai (QJv rfl rfl rfl rfl) (ai rfl (ai rfl (ai rfl (ai rfl trivial))))) (ai rfl (ai rfl trivial))
def Y5:Stp→List D
 | .wr w=>Qn w++[.bl false]
 | .bar=>Qn w0++[.bl true]
def QEg(l:List Stp):List (Nat×Ob):=[(0,.cells 1 [.ts 37 (l.map Y5) 1]),(1,.tail 243 true)]
theorem QP6{n q:Nat}{a b:List (List D)}(h:a=b):Ob.cells 1 [.ts n a q]=Ob.cells 1 [.ts n b q]:=by rw[h]
def Zz(x:Ino):List UInt8:=if RI x then QC5 x else Qh
def Qa(x:Ent):List UInt8:=if RE x then Xp x else Qh
theorem QQk{x:Ino}(h:RI x):QL5 (Ju x)=QJ (QC5 x):=QFy fun n hn=>by
 unfold Ju at hn
 simp only[zm,xm,or_false]at hn
 rcases h with h|h
 ·omega
 ·omega
theorem QMK(x:Ino):QEc x= .tup [.dg 32 (QJ (Zz x)),.d (.bl (decide (RI x)))]:=by
 unfold QEc Zz
 by_cases h:RI x
 ·rw [if_pos h,if_pos h,decide_eq_true h,QQk h]
 ·rw [if_neg h,if_neg h,decide_eq_false h]
theorem QML(x:Ent):QDh x= .tup [.dg 32 (QJ (Qa x)),.d (.bl (decide (RE x)))]:=by
 unfold QDh Qa
 by_cases h:RE x
 ·rw [if_pos h,if_pos h,decide_eq_true h]
 ·rw [if_neg h,if_neg h,decide_eq_false h]
theorem Xi(x:Ino):(Zz x).length=32:=by
 unfold Zz
 split
 ·rfl
 ·rfl
theorem ZO(x:Ent):(Qa x).length=32:=by
 unfold Qa
 split
 ·rename_i h
  unfold Xp
  split
  ·rename_i hu
   have hn:Zl x.n=true:=by
    rcases h with h|h
    ·rw [h.1]at hu;cases hu
    ·exact h.2.2.2.2.2
   have:x.n.length≤8:=by
    unfold Zl at hn
    simp at hn;omega
   simp;omega
  ·rfl
 ·rfl
theorem QF4(l:List Stp)(hl:l.length≤100000)(a:Int)(s:List UInt8)(hs:s.length=32)(k i:Int):
  FnH Tryz.prog 177 [.ptr 0 0,.d (.it .i64 a),.dg 32 (QJ s),.dg 2 [.it .i64 k,.it .i64 i]] (QEg l) 2 [0] (.tup []) (QEg (l++[.wr ⟨a,s,k,i,0⟩])) 2:=by
 obtain⟨g,rfl⟩:=Zg hs
 have hl1:(l.map Y5).length=l.length:=zb ..
 refine QR QTl fun T=>?_
 (repeat' ((conv=>whnf);first|with_reducible refine AtA.mk' ?_|refine CallE.inl ?_|((with_reducible refine QK ?_);first|refine QH QA mixed (by decide+kernel) ?_|refine QF QA mixed 0 (by decide+kernel) ?_)|refine QB ?_|intro x hx hu|intro h|refine Spp.mk ?_ ?_))
 conv=>whnf
 refine⟨_,⟨fun κ g a w hst=>⟨g,hst⟩⟩,rfl,ai (QP6 ?_) (ai rfl trivial),ai rfl (ai rfl trivial)⟩
 show _=(l++[_]).map Y5
 rw[yc];rfl
theorem QJw(l:List Stp)(hl:l.length≤100000):
  FnH Tryz.prog 184 [.ptr 0 0] (QEg l) 2 [0] (.tup []) (QEg (l++[.bar])) 2:=by
 have hl1:(l.map Y5).length=l.length:=zb ..
 refine QR QTo fun T=>?_
 (repeat' ((conv=>whnf);first|with_reducible refine AtA.mk' ?_|refine CallE.inl ?_|((with_reducible refine QK ?_);first|refine QH QA mixed (by decide+kernel) ?_|refine QF QA mixed 0 (by decide+kernel) ?_)|refine QB ?_|intro x hx hu|intro h|refine Spp.mk ?_ ?_))
 conv=>whnf
 refine⟨_,⟨fun κ g a w hst=>⟨g,hst⟩⟩,rfl,ai (QP6 ?_) (ai rfl trivial),ai rfl (ai rfl trivial)⟩
 show _=(l++[_]).map Y5
 rw[yc];rfl
theorem QF5(l:List Stp)(hl:l.length≤100000)(n:Int)(hn: -1000≤n∧n≤1000)(x:Ino)(k i:Int):
  FnH Tryz.prog 142 [.ptr 0 0,.d (.it .i64 n),.dg 6 (Za x),.dg 2 [.it .i64 k,.it .i64 i]] (QEg l) 2 [0] (.tup []) (QEg (l++[.wr ⟨1+n,Zz x,k,i,0⟩])) 2:=by
 have h1:=QL6 x
 rw[QMK]at h1
 have h2:=QF4 l hl (1+n) (Zz x) (Xi x) k i
 obtain⟨g,hg⟩:=Zg (Xi x)
 rw[hg]at h1 h2⊢
 refine QR QTb fun T=>?_
 (repeat' ((conv=>whnf);first|refine cEk h1 ?_|refine CallE.inl ?_|refine CallI.h h2 [0,1] ?_|refine QB ?_|intro x hx hu|intro h|refine Spp.mk ?_ ?_))
 conv=>whnf
 exact⟨_,⟨fun κ g a w hst=>⟨g,hst⟩⟩,rfl,ai rfl (ai rfl trivial),ai rfl (ai rfl trivial)⟩
theorem QAL(l:List Stp)(hl:l.length≤100000)(n:Int)(hn: -1000≤n∧n≤1000)(x:Ent)(i:Int):
  FnH Tryz.prog 129 [.ptr 0 0,.d (.it .i64 n),.dg 4 (Xe x),.d (.it .i64 i)] (QEg l) 2 [0] (.tup []) (QEg (l++[.wr ⟨17+n,Qa x,3,i,0⟩])) 2:=by
 have h1:=QL0 x
 rw[QML]at h1
 have h2:=QF4 l hl (17+n) (Qa x) (ZO x) 3 i
 obtain⟨g,hg⟩:=Zg (ZO x)
 rw[hg]at h1 h2⊢
 refine QR QTV fun T=>?_
 (repeat' ((conv=>whnf);first|refine cEk h1 ?_|refine CallE.inl ?_|refine CallI.h h2 [0,1] ?_|refine QB ?_|intro x hx hu|intro h|refine Spp.mk ?_ ?_))
 conv=>whnf
 exact⟨_,⟨fun κ g a w hst=>⟨g,hst⟩⟩,rfl,ai rfl (ai rfl trivial),ai rfl (ai rfl trivial)⟩
theorem QOu(l:List Stp)(hl:l.length≤100000)(n:Int)(hn: -1000≤n∧n≤1000)(s:List UInt8)(hs:s.length=32)(i:Int):
  FnH Tryz.prog 160 [.ptr 0 0,.d (.it .i64 n),.dg 32 (QJ s),.d (.it .i64 i)] (QEg l) 2 [0] (.tup []) (QEg (l++[.wr ⟨40+n,s,1,i,0⟩])) 2:=by
 have h2:=QF4 l hl (41+n-1) s hs 1 i
 rw[show(⟨41+n-1,s,1,i,0⟩:Wr)=⟨40+n,s,1,i,0⟩ by rw[show(41:Int)+n-1=40+n by omega]]at h2
 obtain⟨g,rfl⟩:=Zg hs
 refine QR QTe fun T=>?_
 (repeat' ((conv=>whnf);first|refine CallE.inl ?_|refine CallI.h h2 [0,1] ?_|refine QB ?_|intro x hx hu|intro h|refine Spp.mk ?_ ?_))
 conv=>whnf
 exact⟨_,⟨fun κ g a w hst=>⟨g,hst⟩⟩,rfl,ai rfl (ai rfl trivial),ai rfl (ai rfl trivial)⟩
def Qp(bad:List Int)(d:Dk):List (Nat×Ob):=[(0,.cells 6 [.d (.fs 32 (d.safe.map QJ)),.d (.fs 36 (d.wait.map Qn)),.d (.it .i64 d.ep),.d (.fs 38 d.log),.d (.fs 1 (vI bad)),.d (.it .i64 d.nx)])]
theorem QMM{a b c e s l:List (List D)}{x y p:Int}(h3:x=y)(h1:a=b)(h2:c=e):Ob.cells 6 [.d (.fs 32 s),.d (.fs 36 a),.d (.it .i64 p),.d (.fs 38 c),.d (.fs 1 l),.d (.it .i64 x)]=Ob.cells 6 [.d (.fs 32 s),.d (.fs 36 b),.d (.it .i64 p),.d (.fs 38 e),.d (.fs 1 l),.d (.it .i64 y)]:=by rw[h1,h2,h3]
theorem QDo(l:List Int)(n:Int)(hl:l.length≤1000000):FnC Tryz.prog 170 [.d (.fs 1 (vI l)),.d (.it .i64 n)] (.d (.bl (decide (n∈l)))):=by
 have hv:(vI l).length=l.length:=zb ..
 refine QL QTj ?_
 (repeat' ((conv=>whnf);first|refine QB ?_|intro x hx hu|intro h|refine Spp.mk ?_ ?_))
 conv=>whnf
 refine QU QA (fun k:Nat=>k≤l.length∧n∉l.take k) (fun k=>⟨[(0,.d (.fs 1 (vI l))),(1,.d (.it .i64 n)),(5,.d (.it .i64 (k:Nat)))],[],0⟩) (fun k=>l.length-k) 0 ⟨z7 _,by simp⟩ ⟨ai rfl (ai rfl (ai rfl trivial)),trivial,rfl⟩ ?_
 intro k ⟨hk,hn⟩
 by_cases hkl:k<l.length
 ·obtain ⟨x,hx⟩:=Qy hkl
  unfold vI at hv⊢
  (repeat' ((conv=>whnf);first|refine QB ?_|intro x hx hu|intro h|refine Spp.mk ?_ ?_))
  ·exact QCh (by rw[show n=x by omega];exact yj hx)
  ·refine again (k+1) ⟨hkl,?_⟩ (by dsimp only;omega) (ai rfl (ai rfl (ai (QQ (by omega)) trivial))) trivial rfl
   rw[Qo hx,yd,yy]
   rintro(h'|h')
   ·exact hn h'
   ·omega
 ·(repeat' ((conv=>whnf);first|refine QB ?_|intro x hx hu|intro h|refine Spp.mk ?_ ?_))
  refine XH ?_
  rw[show l=l.take k by rw[yb (by omega)]]
  exact hn
theorem QK3(bad:List Int)(d:Dk)(a:Int)(s:List UInt8)(hs:s.length=32)(k i:Int)(hn:0≤d.nx∧d.nx≤1000000)(hb:bad.length≤1000000)(h:¬(0≤a∧a<d.safe.length)∨d.nx∈bad):
  FnH Tryz.prog 134 [.ptr 0 0,.d (.it .i64 a),.dg 32 (QJ s),.dg 2 [.it .i64 k,.it .i64 i]] (Qp bad d) 1 [0] (.d (.it .i64 (if¬(0≤a∧a<d.safe.length)then 1 else 3))) (Qp bad (tk d)) 1:=by
 have hin:FnC Tryz.prog 170 [.d (.fs 1 (vI bad)),.d (.it .i64 (d.nx+1-1))] (.d (.bl (decide (d.nx∈bad)))):=by
  have:=QDo bad (d.nx+1-1) hb
  rwa [show decide (d.nx+1-1∈bad)=decide (d.nx∈bad) by rw[qd]]at this
 have hl1:(d.safe.map QJ).length=d.safe.length:=zb ..
 by_cases h1:¬(0≤a∧a<d.safe.length)
 ·rw [if_pos h1]
  obtain⟨g,rfl⟩:=Zg hs
  refine QR QQN fun T=>?_
  (repeat' ((conv=>whnf);first|refine cEk hin ?_|refine CallE.inl ?_|with_reducible refine CallI.inl QA QLh rfl ?_|refine QB ?_|intro x hx hu|intro h|refine Spp.mk ?_ ?_))
  all_goals first|(exfalso;omega)|skip
  all_goals refine QY rfl (ai (QMM rfl rfl rfl) trivial) (ai rfl (ai rfl trivial))
 ·have hb1:=h.resolve_left h1
  rw[if_neg h1]
  rw[decide_eq_true hb1]at hin
  obtain⟨g,rfl⟩:=Zg hs
  refine QR QQN fun T=>?_
  (repeat' ((conv=>whnf);first|refine cEk hin ?_|refine CallE.inl ?_|with_reducible refine CallI.inl QA QLh rfl ?_|refine QB ?_|intro x hx hu|intro h|refine Spp.mk ?_ ?_))
  all_goals first|(exfalso;omega)|skip
  all_goals refine QY rfl (ai (QMM rfl rfl rfl) trivial) (ai rfl (ai rfl trivial))
def InR(d:Dk):Prop:=∀w∈d.wait,0≤w.a∧w.a<d.safe.length
theorem QIs(n:Int):YM n []=none:=rfl
theorem QHN(m:List (List UInt8))(ws:List Wr)(x:Wr):Zy m (ws++[x])=QEe (Zy m ws) x:=by unfold Zy;rw[uv];rfl
theorem QIt(d:Dk)(n:Int)(h0:0≤n):rdS (some d) n=imS (Zy d.safe d.wait) n:=by
 obtain⟨nx,safe,wait,log,ep⟩:=d
 have key:∀l:List Wr,rdS (some ⟨nx,safe,l,log,ep⟩) n=imS (Zy safe l) n:=by
  intro l
  have hrec:∀k,∀l:List Wr,l.length=k→rdS (some ⟨nx,safe,l,log,ep⟩) n=imS (Zy safe l) n:=by
   intro k
   induction k with
   |zero=>
    intro l hl
    have:l=[]:=yv.1 hl
    subst this
    unfold rdS imS
    dsimp only
    rw[QIs]
    show(if _ then safe.getD n.toNat Qh else Qh)=safe.getD n.toNat Qh
    split
    ·rfl
    ·rename_i hc
     rw[zk,wl (by omega)];rfl
   |succ k ih=>
    intro l hl
    have hne:l≠[]:=fun h=>by rw[h]at hl;simp at hl
    obtain⟨t,x,rfl⟩:∃t x,l=t++[x]:=⟨l.dropLast,l.getLast hne,(qb hne).symm⟩
    have iht:=ih t (by simpa using hl)
    rw[QHN]
    have h2:=JO safe t
    unfold rdS at iht⊢
    dsimp only at iht⊢
    rw[QHK]
    unfold QEe imS
    by_cases hx:x.a=n
    ·subst hx
     by_cases hr:0≤x.a∧x.a<safe.length
     ·rw [if_pos hr,if_pos rfl,if_pos (show 0≤x.a∧x.a<((Zy safe t).length:Int) by rw[h2];exact hr)]
      show x.s=((Zy safe t).set x.a.toNat x.s).getD x.a.toNat Qh
      rw[zk,List.getElem?_set_self (by rw[h2];omega)];rfl
     ·rw [if_neg hr,if_neg (show¬(0≤x.a∧x.a<((Zy safe t).length:Int)) by rw[h2];exact hr),zk,wl (by rw[h2];omega)];rfl
    ·rw [if_neg hx]
     unfold imS at iht
     rw[iht]
     split
     ·rw [zk,zk,List.getElem?_set_ne (by omega)]
     ·rfl
  exact hrec l.length l rfl
 exact key wait
def nwH(bad:List Int)(T0:Nat)(d:Dk)(i:Nat):S:=⟨[(0,.ptr 0 0),(3,.vx 32 4 0 d.safe.length),(4,.d (.it .i64 (i:Nat)))],[(4,.vec 37 32 ((Zy d.safe (d.wait.take i)).map QJ) false),(0,.cells 6 [.d (.fs 32 (d.safe.map QJ)),.d (.fs 36 (d.wait.map Qn)),.d (.it .i64 d.ep),.d (.fs 38 d.log),.d (.fs 1 (vI bad)),.d (.it .i64 d.nx)]),(1,.frame 2 [(0,.ptr 0 0)]),(2,.tag 0 T0)],5⟩
theorem X8(bad:List Int)(d:Dk)(hd:Xg (some d))(hR:InR d):FnH Tryz.prog 42 [.ptr 0 0] (Qp bad d) 1 [0] (.d (Q1 (Zy d.safe d.wait))) (Qp bad d) 1:=by
 have hml':(d.safe.map QJ).length=d.safe.length:=zb ..
 have hwl':(d.wait.map Qn).length=d.wait.length:=zb ..
 have hml:=hd.2.2.1
 have hwl:=hd.2.2.2
 refine QR i42 fun T=>?_
 (repeat' ((conv=>whnf);first|((with_reducible refine QB0 ?_);first|refine JD.vec ⟨rfl,?_⟩|refine JD.ts ?_)|refine QB ?_|intro x hx hu|intro h|refine Spp.mk ?_ ?_))
 conv=>whnf
 refine QU QA (fun i:Nat=>i≤d.wait.length) (nwH bad (T 0) d) (fun i=>d.wait.length-i) 0 (z7 _) ⟨ai rfl (ai (QP5 hml') (ai rfl trivial)),ai rfl (ai rfl (ai rfl (ai rfl trivial))),rfl⟩ ?_
 intro i hi
 have hpl:=JO d.safe (d.wait.take i)
 have hpl':((Zy d.safe (d.wait.take i)).map QJ).length=d.safe.length:=by rw[zb,hpl]
 rcases yh i d.wait.length with hil|hil
 ·obtain ⟨x,hx⟩:=Qy hil
  have hxs:=hd.2.1 x (yj hx)
  have hxr:=hR x (yj hx)
  have hstep:=QIq d.safe hx
  obtain⟨xa,xs,xk,xi,xe⟩:=x
  dsimp only at hxr
  obtain⟨g,rfl⟩:=Zg hxs
  (repeat' ((conv=>whnf);first|with_reducible refine Zu hx ?_|refine QB ?_|intro x hx hu|intro h|refine Spp.mk ?_ ?_))
  all_goals (refine again (i+1) (by omega) (by dsimp only;omega) (ai rfl (ai rfl (ai (QQ (by omega)) trivial))) (ai (QQh ?_) (ai rfl (ai rfl (ai rfl trivial)))) rfl)
  all_goals (rw[hstep];unfold QEe;rw[if_pos (by dsimp only at*;omega)];refine QOm (s:=Qx g) (k:=xa.toNat) (y6 _) ?_;rw[hpl];dsimp only at*;omega)
 ·have hie:i=d.wait.length:=by omega
  have hlast:Zy d.safe (d.wait.take i)=Zy d.safe d.wait:=by rw[hie,vd]
  rw[hlast]at hpl'
  unfold nwH
  rw[hlast]
  (repeat' ((conv=>whnf);first|refine QB ?_|intro x hx hu|intro h|refine Spp.mk ?_ ?_))
  refine⟨⟨[(2,.d (.fs 32 ((Zy d.safe d.wait).map QJ)))],[(0,.cells 6 [.d (.fs 32 (d.safe.map QJ)),.d (.fs 36 (d.wait.map Qn)),.d (.it .i64 d.ep),.d (.fs 38 d.log),.d (.fs 1 (vI bad)),.d (.it .i64 d.nx)]),(1,.frame 2 [(0,.ptr 0 0)]),(2,.tag 0 (T 0))],5⟩,
   Wk.frzL 4 37 32 ((Zy d.safe d.wait).map QJ) false (by with_unfolding_all exact rfl) (ai (Fz.vx 0 d.safe.length _ (by rw[hpl'];omega) (by rw[vr,yb (by rw[hpl'];exact zt _)])) trivial) (ai rfl (ai (FzO.same _) (ai rfl (ai (FzO.same _) (ai rfl (ai (FzO.same _) trivial)))))) rfl,rfl,ai rfl trivial,ai rfl (ai rfl trivial)⟩
def Qm(b:Bool)(bad:List Int)(d:Dk):List (Nat×Ob):=Yk b bad d++[(5,.cells 1 [.ptr 0 0])]
def QEh:Stp→Prop
 | .wr w=>w.s.length=32∧0≤w.a∧w.a<65
 | .bar=>True
structure Evt where
 k:Int
 w:Wr
 t:List (Int×Int)
def QBY(t:Int×Int):List D:=[.it .i64 t.1,.it .i64 t.2]
def X9(e:Evt):List D:=[.it .i64 e.k]++Qn e.w++[.fs 2 (e.t.map QBY)]
def QMN(l:List (List D)):Prop:=∃es:List Evt,l=es.map X9∧∀e∈es,e.w.s.length=32∧e.t.length≤1000
theorem QMN.snoc{l:List (List D)}(h:QMN l)(e:Evt)(h1:e.w.s.length=32)(h2:e.t.length≤1000):QMN (l++[X9 e]):=by
 obtain⟨es,rfl,h3⟩:=h
 refine⟨es++[e],by rw[yc];rfl,fun x hx=>?_⟩
 rcases yd.1 hx with hx|hx
 ·exact h3 x hx
 ·rw [yy.1 hx];exact⟨h1,h2⟩
structure Fd(bad:List Int)(d:Dk)(N:Nat):Prop where
 s:∀s∈d.safe,s.length=32
 w:∀w∈d.wait,w.s.length=32
 r:InR d
 b:DB d N
 n:d.safe.length=65
 bl:bad.length≤1000000
 ep: -(N:Int)≤d.ep∧d.ep≤N
 lg:QMN d.log
 hN:N≤90000
theorem Fd.ok{bad:List Int}{d:Dk}{N:Nat}(h:Fd bad d N):Xg (some d):=⟨h.s,h.w,by rw[h.n];exact zt _,by have:=h.b.w;have:=h.hN;omega⟩
theorem DB.mono{d:Dk}{N M:Nat}(h:DB d N)(hm:N≤M):DB d M:=⟨⟨h.nx.1,by have:=h.nx;omega⟩,x6 h.w hm,x6 h.l hm,h.s,h.s0⟩
theorem Fd.mono{bad:List Int}{d:Dk}{N M:Nat}(h:Fd bad d N)(hm:N≤M)(hM:M≤90000):Fd bad d M:=⟨h.s,h.w,h.r,h.b.mono hm,h.n,h.bl,by have:=h.ep;omega,h.lg,hM⟩
theorem Fd.tk{bad:List Int}{d:Dk}{N:Nat}(h:Fd bad d N)(hM:N+1≤90000):Fd bad (tk d) (N+1):=
 ⟨h.s,h.w,h.r,⟨⟨by have:=h.b.nx;show 0≤d.nx+1;omega,by have:=h.b.nx;show d.nx+1≤_;omega⟩,qo h.b.w,qo h.b.l,h.b.s,h.b.s0⟩,h.n,h.bl,by have:=h.ep;show-((N+1:Nat):Int)≤d.ep∧d.ep≤((N+1:Nat):Int);omega,h.lg,hM⟩
theorem Fd.bar{bad:List Int}{d:Dk}{N:Nat}(h:Fd bad d N)(hM:N+1≤90000):Fd bad (Yj d) (N+1):=
 ⟨h.s,h.w,h.r,⟨⟨by have:=h.b.nx;show 0≤d.nx+1;omega,by have:=h.b.nx;show d.nx+1≤_;omega⟩,qo h.b.w,by show(d.log++[_]).length≤_;rw[zj];exact qw h.b.l,h.b.s,h.b.s0⟩,h.n,h.bl,by have:=h.ep;show-((N+1:Nat):Int)≤d.ep+1∧d.ep+1≤((N+1:Nat):Int);omega,h.lg.snoc ⟨3,w0,[]⟩ rfl (z7 _),hM⟩
theorem Fd.wr{bad:List Int}{d:Dk}{N:Nat}(h:Fd bad d N)(hM:N+1≤90000)(w:Wr)(hw:QEh (.wr w)):Fd bad (wrD d w) (N+1):=
 ⟨h.s,(fun x hx=>by
  rcases yd.1 hx with hx|hx
  ·exact h.w x hx
  ·rw [yy.1 hx];exact hw.1),(fun x hx=>by
  rcases yd.1 hx with hx|hx
  ·exact h.r x hx
  ·rw [yy.1 hx]
   have h2:=hw.2
   have:=h.n
   show 0≤w.a∧w.a<(d.safe.length:Int);omega),
  ⟨⟨by have:=h.b.nx;show 0≤d.nx+1;omega,by have:=h.b.nx;show d.nx+1≤_;omega⟩,by show(d.wait++[_]).length≤_;rw[zj];exact qw h.b.w,by show(d.log++[_]).length≤_;rw[zj];exact qw h.b.l,h.b.s,h.b.s0⟩,h.n,h.bl,by have:=h.ep;show-((N+1:Nat):Int)≤d.ep∧d.ep≤((N+1:Nat):Int);omega,h.lg.snoc ⟨1,{w with e:=d.ep},[]⟩ hw.1 (z7 _),hM⟩
theorem Fd.run{bad:List Int}:∀(l:List Stp) {d:Dk} {N:Nat},Fd bad d N→N+l.length≤90000→(∀s∈l,QEh s)→Fd bad (Qt bad d l).1 (N+l.length)
 |[],d,N,h,hM,_=>h
 | .wr w::t,d,N,h,hM,hl=>by
  have hM':N+(t.length+1)≤90000:=hM
  show Fd bad (Qt bad d (.wr w::t)).1 (N+(t.length+1))
  unfold Qt
  split
  ·exact (h.tk (by omega)).mono (by omega) hM'
  ·have:=Fd.run t (h.wr (by omega) w (hl _ zu)) (by omega) fun s hs=>hl s (zr _ hs)
   exact this.mono (by omega) hM'
 | .bar::t,d,N,h,hM,hl=>by
  have hM':N+(t.length+1)≤90000:=hM
  show Fd bad (Qt bad d (.bar::t)).1 (N+(t.length+1))
  unfold Qt
  split
  ·exact (h.tk (by omega)).mono (by omega) hM'
  ·have:=Fd.run t (h.bar (by omega)) (by omega) fun s hs=>hl s (zr _ hs)
   exact this.mono (by omega) hM'
def doA(b:Bool)(bad:List Int)(T:Nat→Nat)(l:List Stp):Nat×Dk→S|(k,D)=>⟨[(0,.ptr 5 0),(1,.d (.fs 37 (l.map Y5))),(5,.d (.it .i64 0)),(8,.d (.fs 37 (l.map Y5))),(9,.d (.it .i64 (l.length:Nat))),(10,.d (.it .i64 (k:Nat)))],Qm b bad D++Qs 6 [0,5] T,9⟩
theorem QDp{b:Bool}{bad:List Int}{d:Dk}{N:Nat}(h:Fd bad d N)(l:List Stp)(hw:∀s∈l,QEh s)(hl:l.length≤100):
  FnH Tryz.prog 130 [.ptr 5 0,.d (.fs 37 (l.map Y5))] (Qm b bad d) 6 [0,5] (.d (.it .i64 (Qt bad d l).2)) (Qm b bad (Qt bad d l).1) 6:=by
 have hwl:(l.map Y5).length=l.length:=zb ..
 have hN:=h.hN
 obtain⟨R,hR⟩:∃R,Qt bad d l=R:=⟨_,rfl⟩
 rw[hR]
 refine QR i130 fun T=>?_
 (repeat' ((conv=>whnf);first|refine QB ?_|intro x hx hu|intro h|refine Spp.mk ?_ ?_))
 conv=>whnf
 refine ZB QA (fun x:Nat×Dk=>x.1≤l.length∧Qt bad x.2 (l.drop x.1)=R∧DB x.2 (N+x.1)∧x.2.safe.length=65∧ -((N+x.1:Nat):Int)≤x.2.ep∧x.2.ep≤(N+x.1:Nat)) (doA b bad T l) (fun x=>l.length-x.1) (0,d) ⟨z7 _,hR,h.b,h.n,h.ep⟩ (Wk.en ⟨ai rfl (ai rfl (ai rfl (ai rfl (ai (QQ (by rw[hwl])) (ai rfl trivial))))),(ai rfl (ai rfl (ai rfl (ai rfl (ai rfl (ai rfl (ai rfl (ai rfl (ai rfl trivial))))))))),rfl⟩) ?_
 intro⟨k,D⟩ hk0
 have hk:=hk0.1
 have hr:=hk0.2.1
 have hb:=hk0.2.2.1
 have hn:=hk0.2.2.2.1
 have hep:=hk0.2.2.2.2
 dsimp only at hk hr hb hn hep
 by_cases hkl:k<l.length
 ·obtain ⟨s,hx⟩:=Qy hkl
  have hws:=hw s (yj hx)
  have hdr:l.drop k=s::l.drop (k+1):=by
   obtain⟨hk',e⟩:=z6.1 hx
   rw[wn hk',e]
  rw[hdr]at hr
  have hbk:DB D 1000000:=⟨by have:=hb.nx;omega,by have:=hb.w;omega,by have:=hb.l;omega,hb.s,hb.s0⟩
  cases s with
  |wr w=>
   unfold Qt at hr
   have hin:0≤w.a∧w.a<D.safe.length:=⟨hws.2.1,by rw[hn];exact hws.2.2⟩
   have hb1:DB (wrD D w) (N+(k+1)):=⟨⟨by have:=hb.nx;show 0≤D.nx+1;omega,by have:=hb.nx;show D.nx+1≤_;omega⟩,by have:=hb.w;show(D.wait++[_]).length≤_;rw[zj,xd];omega,by have:=hb.l;show(D.log++[_]).length≤_;rw[zj,xd];omega,hb.s,hb.s0⟩
   obtain⟨wa,wS,wk,wi,we⟩:=w
   have hW:=QQj b bad D wa wS hws.1 wk wi hbk hin
   by_cases hbad:D.nx∈bad
   ·rw [if_pos hbad]at hr
    rw[if_pos hbad,if_pos hbad]at hW
    obtain⟨g,rfl⟩:=Zg hws.1
    (repeat' ((conv=>whnf);first|with_reducible refine Zu hx ?_|with_reducible refine AtA.mk' ?_|refine CallE.inl ?_|refine CallI.h hW [0,1,2,3,4] ?_|refine QB ?_|intro x hx hu|intro h|refine Spp.mk ?_ ?_))
    all_goals first|(exfalso;omega)|skip
    rw[←hr]
    exact QS
   ·rw [if_neg hbad]at hr
    rw[if_neg hbad,if_neg hbad]at hW
    obtain⟨g,rfl⟩:=Zg hws.1
    (repeat' ((conv=>whnf);first|with_reducible refine Zu hx ?_|with_reducible refine AtA.mk' ?_|refine CallE.inl ?_|refine CallI.h hW [0,1,2,3,4] ?_|refine QB ?_|intro x hx hu|intro h|refine Spp.mk ?_ ?_))
    all_goals first|(exfalso;omega)|skip
    exact⟨(k+1,wrD D ⟨wa,Qx g,wk,wi,we⟩),⟨hkl,hr,hb1,hn,by show-((N+(k+1):Nat):Int)≤D.ep∧D.ep≤((N+(k+1):Nat):Int);omega⟩,by first|omega|(dsimp only;omega),Wk.en ⟨ai rfl (ai rfl (ai rfl (ai rfl (ai rfl (ai (QQ (by omega)) trivial))))),(ai rfl (ai rfl (ai rfl (ai rfl (ai rfl (ai rfl (ai rfl (ai rfl (ai rfl trivial))))))))),rfl⟩⟩
  |bar=>
   unfold Qt at hr
   have hb1:DB (Yj D) (N+(k+1)):=⟨⟨by have:=hb.nx;show 0≤D.nx+1;omega,by have:=hb.nx;show D.nx+1≤_;omega⟩,by have:=hb.w;show D.wait.length≤_;omega,by have:=hb.l;show(D.log++[_]).length≤_;rw[zj,xd];omega,hb.s,hb.s0⟩
   have hW:=QOt b bad D hbk (by omega)
   by_cases hbad:D.nx∈bad
   ·rw [if_pos hbad]at hr
    rw[if_pos hbad,if_pos hbad]at hW
    (repeat' ((conv=>whnf);first|with_reducible refine Zu hx ?_|with_reducible refine AtA.mk' ?_|refine CallE.inl ?_|refine CallI.h hW [0,1,2,3,4] ?_|refine QB ?_|intro x hx hu|intro h|refine Spp.mk ?_ ?_))
    all_goals first|(exfalso;omega)|skip
    rw[←hr]
    exact QS
   ·rw [if_neg hbad]at hr
    rw[if_neg hbad,if_neg hbad]at hW
    (repeat' ((conv=>whnf);first|with_reducible refine Zu hx ?_|with_reducible refine AtA.mk' ?_|refine CallE.inl ?_|refine CallI.h hW [0,1,2,3,4] ?_|refine QB ?_|intro x hx hu|intro h|refine Spp.mk ?_ ?_))
    all_goals first|(exfalso;omega)|skip
    exact⟨(k+1,Yj D),⟨hkl,hr,hb1,hn,by show-((N+(k+1):Nat):Int)≤D.ep+1∧D.ep+1≤((N+(k+1):Nat):Int);omega⟩,by first|omega|(dsimp only;omega),Wk.en ⟨ai rfl (ai rfl (ai rfl (ai rfl (ai rfl (ai (QQ (by omega)) trivial))))),(ai rfl (ai rfl (ai rfl (ai rfl (ai rfl (ai rfl (ai rfl (ai rfl (ai rfl trivial))))))))),rfl⟩⟩
 ·have hnil:l.drop k=[]:=vf (by omega)
  rw[hnil]at hr
  replace hr:(D,(0:Int))=R:=hr
  (repeat' ((conv=>whnf);first|refine QB ?_|intro x hx hu|intro h|refine Spp.mk ?_ ?_))
  rw[←hr]
  exact QS
theorem frD{mem:List (Nat×Ob)}{n0 n1 n2 n3 n4:Nat}{fl:Bool}{d:Dk}(h0:Sy.look n0 mem=some (.cells 6 [.mp n3,.d (.it .i64 d.nx),.vx 32 n4 0 d.safe.length,.ts 36 (d.wait.map Qn) n1,.ts 38 d.log n2,.d (.it .i64 d.ep)]))(h4:Sy.look n4 mem=some (.vec 37 32 (d.safe.map QJ) fl)):
  FrA mem [.ptr n0 0] [Qd (some d)]:=
 FrA.fp n0 0 6 6 _ (QE8 d) [] [] h0 (zt _) rfl (.pl _ _ _ _ rfl (.pl _ _ _ _ rfl (.vx _ _ _ _ _ _ _ _ h4 (zb ..) (.pl _ _ _ _ rfl (.pl _ _ _ _ rfl (.pl _ _ _ _ rfl .nil)))))) .nil
theorem frG{mem:List (Nat×Ob)}{n0 n1 n2 n3 n4 n5:Nat}{fl:Bool}{d:Dk}(h5:Sy.look n5 mem=some (.cells 1 [.ptr n0 0]))(h0:Sy.look n0 mem=some (.cells 6 [.mp n3,.d (.it .i64 d.nx),.vx 32 n4 0 d.safe.length,.ts 36 (d.wait.map Qn) n1,.ts 38 d.log n2,.d (.it .i64 d.ep)]))(h4:Sy.look n4 mem=some (.vec 37 32 (d.safe.map QJ) fl)):
  FrA mem [.ptr n5 0] [.fp 1 [Qd (some d)]]:=
 FrA.fp n5 0 1 1 _ [Qd (some d)] [] [] h5 (zt _) rfl (frD h0 h4) .nil
theorem rFk{N f:Nat}{o:Oper}{σ:S}{l l':List AV}{K:S→Prop}{r:AV}(h:FnC Tryz.prog f l' r)(k:K (σ.put o.dst r))(hA:ArF σ.mem l l':=by first|exact ArF.fr _ _ _ _ (frG (by with_unfolding_all exact rfl) (by with_unfolding_all exact rfl) (by with_unfolding_all exact rfl)) (by repeat' (first|exact ArF.nil|refine ArF.pl _ _ _ _ rfl ?_))|exact ArF.fr _ _ _ _ (frD (by with_unfolding_all exact rfl) (by with_unfolding_all exact rfl)) (by repeat' (first|exact ArF.nil|refine ArF.pl _ _ _ _ rfl ?_)))
  (hr:r.flatP=true:=by with_unfolding_all exact rfl):CallI Tryz.prog N o σ f l K:=rF h k hA hr
theorem Z8:∀a b:List UInt8,Op.bytesLess a b=true↔a<b
 |[],[]=>by simp[Op.bytesLess]
 |[],_::_=>by simp[Op.bytesLess]
 |_::_,[]=>by simp[Op.bytesLess]
 |a::s,b::t=>by
  rw[List.cons_lt_cons_iff,←Z8 s t]
  simp[Op.bytesLess]
theorem QDJ(a b:List UInt8):a≤b↔Op.bytesLess b a=false:=by
 rw[←Bool.not_eq_true,Z8];exact Iff.rfl
theorem QSP{a b c:List UInt8}(h:a≤b)(k:b≤c):a≤c:=by
 rw[QDJ]at h k⊢
 cases hc:Op.bytesLess c a with
 |false=>rfl
 |true=>
  cases hb:Op.bytesLess c b with
  |true=>rw[hb]at k;cases k
  |false=>
   have:=QBO c b hb
   cases hb':Op.bytesLess b c with
   |false=>rw[this hb']at hc;rw[hc]at h;cases h
   |true=>rw[Yg b c a hb' hc]at h;cases h
theorem QCm{a b:List UInt8}(h:a≤b)(k:a≠b):a<b:=by
 rw[←Z8]
 rw[QDJ]at h
 cases hc:Op.bytesLess a b with
 |true=>rfl
 |false=>exact absurd (QBO a b hc h) k
theorem QHO{a b c:List UInt8}(h:a≤b)(k:b<c):a<c:=by
 by_cases e:a=b
 ·rw [e];exact k
 ·have:=QCm h e
  rw[←Z8]at this k⊢
  exact Yg a b c this k
theorem Y6(a:List UInt8):¬a<a:=by rw[←Z8,QBN];simp
theorem QF6(l:List (List UInt8)):(Y4 l).Pairwise (· ≤ ·):=by
 have:=Wd (le:=fun x y:List UInt8=>decide (x≤y)) (fun a b c h k=>by simp only[decide_eq_true_eq]at h k⊢;exact QSP h k)
  (fun a b=>by
   simp only[wb,decide_eq_true_eq,QDJ]
   cases h:Op.bytesLess b a with
   |false=>exact .inl rfl
   |true=>exact .inr (QDZ b a h)) l
 exact this.imp fun h=>by simpa using h
theorem QDq{l:List (List UInt8)}(h:l.Pairwise (· ≤ ·)):(Lib.compact l).Pairwise (· < ·):=by
 have hg:∀i j (hi:i<l.length) (hj:j<l.length),i≤j→l[i]≤l[j]:=fun i j hi hj hij=>by
  rcases Nat.lt_or_eq_of_le hij with h1|rfl
  ·exact v8.1 h i j hi hj h1
  ·rw [QDJ];exact QBN _
 have hb:∀i (hi:i<l.length),(l.toArray)[i]! =l[i]:=fun i hi=>by
  rw[getElem!_pos l.toArray i (by simpa using hi)];simp
 unfold Lib.compact Lib.compactUpTo
 rw[List.pairwise_map,List.pairwise_filter]
 refine List.pairwise_lt_range.imp_of_mem fun{i j} hi hj hij _ hk=>?_
 rw[y4]at hi hj
 unfold Lib.keeps at hk
 have hk:=of_decide_eq_true hk
 rcases hk with hk|hk
 ·omega
 ·rw [hb j hj,hb (j-1) (by omega)]at hk
  rw[hb i hi,hb j hj]
  exact QHO (hg i (j-1) hi (by omega) (by omega)) (QCm (hg (j-1) j (by omega) hj (by omega)) fun e=>hk e.symm)
theorem J2{l:List (List UInt8)}(x:List UInt8):x∈Lib.compact l↔x∈l:=by
 have hb:∀i (hi:i<l.length),(l.toArray)[i]! =l[i]:=fun i hi=>by
  rw[getElem!_pos l.toArray i (by simpa using hi)];simp
 unfold Lib.compact Lib.compactUpTo
 constructor
 ·intro h
  obtain⟨i,hi,rfl⟩:=yf.1 h
  have:=y4.1 (ub.1 hi).1
  rw[hb i this]
  exact zo _
 ·intro h
  have key:∀i (hi:i<l.length),l[i]∈((List.range l.length).filter (Lib.keeps l.toArray)).map (l.toArray[·]!):=by
   intro i
   induction i with
   |zero=>
    intro hi
    refine yf.2 ⟨0,ub.2 ⟨y4.2 hi,by simp[Lib.keeps]⟩,hb 0 hi⟩
   |succ i ih=>
    intro hi
    by_cases e:l[i+1]=l[i]
    ·rw [e];exact ih (by omega)
    ·refine yf.2 ⟨i+1,ub.2 ⟨y4.2 hi,?_⟩,hb _ hi⟩
     unfold Lib.keeps
     refine decide_eq_true (.inr ?_)
     rw[hb _ hi,Nat.add_sub_cancel,hb i (by omega)]
     exact e
  obtain⟨i,hi,rfl⟩:=vu h
  exact key i hi
def QFD(last:List UInt8)(o:Option (List UInt8))(x:List UInt8):Option (List UInt8):=match o with
 |none=>if last<x then some x else none
 |some y=>if last<x∧x<y then some x else some y
def JP(last:List UInt8)(L:List (List UInt8)):Option (List UInt8):=L.foldl (QFD last) none
theorem QMO(last:List UInt8):∀(L:List (List UInt8)),(JP last L=none→∀x∈L,¬last<x)∧∀y,JP last L=some y→y∈L∧last<y∧∀x∈L,last<x→¬x<y:=by
 suffices h:∀(n:Nat) (L:List (List UInt8)),L.length=n→(JP last L=none→∀x∈L,¬last<x)∧∀y,JP last L=some y→y∈L∧last<y∧∀x∈L,last<x→¬x<y from fun L=>h _ L rfl
 intro n
 induction n with
 |zero=>intro L hL;obtain rfl:=yv.1 hL;exact⟨fun _ x h=>(by cases h),fun y h=>(by cases h)⟩
 |succ n ih=>
  intro L hL
  have hne:L≠[]:=by rintro rfl;cases hL
  have e:L=L.dropLast++[L.getLast hne]:=(qb hne).symm
  generalize L.getLast hne=x at e
  have hl:L.dropLast.length=n:=by rw[Ww];omega
  generalize L.dropLast=M at e hl
  subst e
  have h:=ih M hl
  have hp:JP last (M++[x])=QFD last (JP last M) x:=by unfold JP;rw[uv];rfl
  rw[hp]
  cases hm:JP last M with
  |none=>
   have h1:=h.1 hm
   unfold QFD
   dsimp only
   by_cases hx:last<x
   ·rw [if_pos hx]
    refine⟨fun q=>(by cases q),fun y q=>?_⟩
    obtain rfl:=za q
    refine⟨by simp,hx,fun z hz hlz=>?_⟩
    rcases yd.1 hz with hz|hz
    ·exact absurd hlz (h1 z hz)
    ·obtain rfl:=yy.1 hz;exact Y6 _
   ·rw [if_neg hx]
    refine⟨fun _ z hz=>?_,fun y q=>by cases q⟩
    rcases yd.1 hz with hz|hz
    ·exact h1 z hz
    ·obtain rfl:=yy.1 hz;exact hx
  |some y=>
   obtain⟨h1,h2,h3⟩:=h.2 y hm
   unfold QFD
   dsimp only
   by_cases hx:last<x∧x<y
   ·rw [if_pos hx]
    refine⟨fun q=>(by cases q),fun z q=>?_⟩
    obtain rfl:=za q
    refine⟨by simp,hx.1,fun z hz hlz=>?_⟩
    rcases yd.1 hz with hz|hz
    ·intro hzx
     refine h3 z hz hlz ?_
     rw[←Z8]at hzx⊢
     exact Yg _ _ _ hzx ((Z8 _ _).2 hx.2)
    ·obtain rfl:=yy.1 hz;exact Y6 _
   ·rw [if_neg hx]
    refine⟨fun q=>(by cases q),fun z q=>?_⟩
    obtain rfl:=za q
    refine⟨by simp[h1],h2,fun z hz hlz=>?_⟩
    rcases yd.1 hz with hz|hz
    ·exact h3 z hz hlz
    ·obtain rfl:=yy.1 hz;exact fun q=>hx ⟨hlz,q⟩
def Zc(S:List (List UInt8))(i:Nat):List UInt8:=match i with
 |0=>[]
 |j+1=>S.getD j []
theorem QOv{L S:List (List UInt8)}(hs:S.Pairwise (· < ·))(hm:∀x,x∈S↔x∈L)(hne:∀x∈L,x≠[])(i:Nat)(hi:i≤S.length):JP (Zc S i) L=S[i]? :=by
 have hlt:∀a b (ha:a<S.length) (hb:b<S.length),a<b→S[a]<S[b]:=fun a b ha hb h=>v8.1 hs a b ha hb h
 have hup:∀j (hj:j<S.length),i≤j→Zc S i<S[j]:=by
  intro j hj hij
  cases i with
  |zero=>
   show []<S[j]
   have:=hne S[j] ((hm _).1 (zo _))
   cases h:S[j]with
   |nil=>exact absurd h this
   |cons a t=>rw[←Z8];rfl
  |succ k=>
   show S.getD k []<S[j]
   rw[zk,zi (by omega),u0]
   exact hlt k j (by omega) hj (by omega)
 have hdn:∀j (hj:j<S.length),j<i→¬Zc S i<S[j]:=by
  intro j hj hij
  cases i with
  |zero=>omega
  |succ k=>
   show¬S.getD k []<S[j]
   rw[zk,zi (by omega),u0]
   rcases Nat.lt_or_eq_of_le (Nat.le_of_lt_succ hij)with h|rfl
   ·intro q
    have:=hlt j k hj (by omega) h
    rw[←Z8]at q this
    rw[QDZ _ _ q]at this;cases this
   ·exact Y6 _
 have h:=QMO (Zc S i) L
 rcases yh i S.length with hil|hil
 ·rw [zi hil]
  have hup':=hup i hil (zt _)
  cases hp:JP (Zc S i) L with
  |none=>exact absurd hup' (h.1 hp _ ((hm _).1 (zo _)))
  |some y=>
   obtain⟨h1,h2,h3⟩:=h.2 y hp
   obtain⟨j,hj,rfl⟩:=vu ((hm y).2 h1)
   have hij:¬j<i:=fun q=>hdn j hj q h2
   have hji:¬i<j:=fun q=>h3 _ ((hm _).1 (zo _)) hup' (hlt i j hil hj q)
   have:i=j:=by omega
   subst this;rfl
 ·rw [wl hil]
  cases hp:JP (Zc S i) L with
  |none=>rfl
  |some y=>
   obtain⟨h1,h2,_⟩:=h.2 y hp
   obtain⟨j,hj,rfl⟩:=vu ((hm y).2 h1)
   exact absurd h2 (hdn j hj (by omega))
def QOw:List UInt8:=[2,0,0,0,0,0,0,0,0,0,0,0,0,0,0,0,0,0,0,0,0,0,0,0,0,0,0,0,0,0,0,0]
def Je:List (List UInt8):=YO::QOw::List.replicate 63 Qh
def k1S:List UInt8:=[1,0,2,1,0,0,0,0,0,0,0,0,0,0,0,0,97,0,0,0,0,0,0,0,0,0,0,0,0,0,0,0]
def k2S:List UInt8:=[1,0,0,0,0,0,0,0,0,0,0,0,0,0,0,0,0,0,0,0,0,0,0,0,0,0,0,0,0,0,0,0]
def kW:List Wr:=[⟨17,k1S,0,0,0⟩,⟨3,k2S,0,0,0⟩]
theorem QP7:Zx Je:=by
 intro s hs
 simp only[Je,zm,List.mem_replicate]at hs
 rcases hs with rfl|rfl|⟨_,rfl⟩<;>rfl
theorem QMP:FnC Tryz.prog 46 [] (.d (Q1 Je)):=by
 have hs:=QCl
 refine QL i46 ?_
 (repeat' ((conv=>whnf);first|refine cEk hs ?_|refine QB ?_|intro x hx hu|intro h|refine Spp.mk ?_ ?_))
 refine⟨Je.map QJ,⟨?_,?_,?_,?_⟩,?_⟩
 ·exact ye (by kernel_rfl)
 ·kernel_rfl
 ·intro x hx
  obtain⟨s,hs,rfl⟩:=yf.1 hx
  rw[ZS];exact QP7 s hs
 ·kernel_rfl
 ·rfl
def kD:Option Dk:=QSO Je kW
theorem f1:ZI (rdS kD) [47,97]=(2,0):=by decide+kernel
theorem f2:Yy (rdS kD) 0 [97]=some 0:=by decide+kernel
theorem f3:ZI (rdS kD) [47,98]=(0,4):=by decide+kernel
theorem f4:JN (Yx kD):=by decide+kernel
theorem f5:Zv (rdS kD) 0 24=[[97]]:=by decide+kernel
theorem f6:XZ (rdS kD) 2:=by decide+kernel
theorem f7:(Qw (rdS kD) 2).k=1:=by decide+kernel
theorem f8:(QI (rdS kD) 0).n=[97]:=by decide+kernel
theorem f9:(nms (rdS kD) 0).length=1:=by
 unfold nms
 rw[f5]
 have h:Y4 [[97]]=[[97]]:=by simp[Y4]
 rw[h]
 decide+kernel
def QMQ(kd:Int→Int)(R:List Bool)(x:Ent):Prop:=x.u=true∧R.getD x.p.toNat false=true∧kd x.p=2∧kd x.t≠0∧R.getD x.t.toNat false=false∧x.t.toNat<R.length
instance(kd:Int→Int)(R:List Bool)(x:Ent):Decidable (QMQ kd R x):=by unfold QMQ;infer_instance
def Jv(x:Ino):List Int:=[x.b0,x.b1,x.b2,x.b3]
structure XOK(I:List Ino)(E:List Ent)(R:List Bool):Prop where
 i:I.length=16
 e:E.length=24
 r:R.length=16
 p:∀x∈E,x.u=true→0≤x.p∧x.p<16∧1≤x.t∧x.t<16
section
variable {d:Option Dk} {I:List Ino} {E:List Ent} {R:List Bool}
end
def QSQ(I:List Ino)(R:List Bool)(x:Ent):Prop:=x.u=true∧R.getD x.p.toNat false=true∧(I.getD x.p.toNat QFz).k=2
instance(I:List Ino)(R:List Bool)(x:Ent):Decidable (QSQ I R x):=by unfold QSQ;infer_instance
section
variable {d:Option Dk} {I:List Ino} {E:List Ent} {R:List Bool}
end
theorem QHP(f:Int→List UInt8)(k:Int):RE (QI f k):=by
 unfold QI
 split
 ·unfold JL
  split
  ·rename_i h;exact h.1
  ·exact .inl ⟨rfl,rfl,rfl,rfl⟩
 ·exact .inl ⟨rfl,rfl,rfl,rfl⟩
def F16:List Bool:=List.replicate 16 false
def QSR(d:Option Dk)(k:Int):Prop:=QHF d (17+k)∧J0 (rdS d (17+k))=false
instance(d:Option Dk)(k:Int):Decidable (QSR d k):=by unfold QSR;infer_instance
theorem QDr(f:Int→List UInt8)(n:Int):RI (Qw f n):=by
 unfold Qw
 split
 ·unfold QBW
  split
  ·rename_i h;exact h.1
  ·exact .inl ⟨.inl rfl,rfl,rfl,rfl,rfl,rfl⟩
 ·exact .inl ⟨.inl rfl,rfl,rfl,rfl,rfl,rfl⟩
def JQ(f:Int→List UInt8)(x:Ino):List UInt8:=(f (40+x.b0)++f (40+x.b1)++f (40+x.b2)++f (40+x.b3)).take x.z.toNat
theorem QMR(f:Int→List UInt8)(n:Int):∀s∈nms f n,Zl s=true:=by
 intro s hs
 unfold nms at hs
 rw[J2]at hs
 have hs:=(qe).1 hs
 unfold Zv at hs
 obtain⟨k,hk,rfl⟩:=yf.1 hs
 have:=of_decide_eq_true (ub.1 hk).2
 have hu:=this.1
 rcases QHP f (k:Nat)with h|h
 ·rw [h.1]at hu;cases hu
 ·exact h.2.2.2.2.2
theorem QOx(f:Int→List UInt8)(n:Int):(nms f n).length≤24:=by
 unfold nms
 have h1:=Lib.compact_length_le (Y4 (Zv f n 24))
 have h2:=QDn f n 24
 rw[QCB]at h1
 omega
def Q0(x:Ino):Nat→Int
 |0=>x.b0
 |1=>x.b1
 |2=>x.b2
 |_=>x.b3
theorem QK4{α:Type}{l:List α}{j:Nat}{c:α}(h:l[j]? =some c):l.drop j=c::l.drop (j+1):=by
 obtain⟨hj,rfl⟩:=z6.1 h
 exact wn hj
theorem QQl{i q:Nat}(hi:i≤1000)(h:i/32=q):IntKind.i64.wrap (Int.tdiv (i:Int) 32)=(q:Int):=by
 subst h
 have h1:Int.tdiv (i:Int) 32=((i/32:Nat):Int):=rfl
 rw[h1,kq _ (by omega)]
theorem QQm(i:Nat):Int.tmod (i:Int) 32=((i % 32:Nat):Int):=rfl
theorem QF7{α β:Type}{e:α→β}{l:List α}{n:Int}{x:α}{K:β→Prop}(hx:l[n.toNat]? =some x)(h:K (e x))(h0:0≤n∧n<l.length:=by omega):(0≤n∧n<(l.map e).length)∧∀c,(l.map e)[n.toNat]? =some c→K c:=⟨by rw[zb];exact h0,fun c hc=>by
 rw[yr,hx]at hc
 obtain rfl:=za hc
 exact h⟩
theorem QK5{s:List UInt8}{k:Nat}{b:UInt8}(h:s[k]? =some b):List.take 1 (List.drop (((k:Nat):Int).toNat*1) (QJ s))=[.it .u8 b.toNat]:=by
 rw[ut,jn,QK4 (l:=QJ s) (c:= .it .u8 b.toNat) (by unfold QJ;rw[yr,h];rfl)];rfl
theorem QQn{f:Int→List UInt8}(hf:∀n,(f n).length=32)(x:Ino){i q:Nat}(hq:i/32=q)(hq4:q<4)(hz:(i:Int)<x.z):(JQ f x)[i]? =(f (40+Q0 x q))[i % 32]? :=by
 have h0:=hf (40+x.b0)
 have h1:=hf (40+x.b1)
 have h2:=hf (40+x.b2)
 have h3:=hf (40+x.b3)
 unfold JQ
 rw[qx (by omega)]
 have hk':q=0∨q=1∨q=2∨q=3:=by omega
 rcases hk' with rfl|rfl|rfl|rfl
 ·rw [y5,y5,vn (by omega),show i % 32=i by omega];rfl
 ·rw [y5,y5,w9 (by omega),vn (by omega),h0,show i % 32=i-32 by omega];rfl
 ·rw [y5 (f (40+x.b0)++f (40+x.b1)),w9 (by rw[zj];omega),vn (by rw[zj];omega),zj,h0,h1,show i % 32=i-(32+32) by omega];rfl
 ·rw [w9 (by rw[zj,zj];omega),zj,zj,h0,h1,h2,show i % 32=i-(32+32+32) by omega];rfl
def Zj(p:List UInt8):List UInt8×List UInt8×Int:=
 if(QO p).2≠0 then([],[],(QO p).2)else if(QO p).1=[]then([],[],1)else(XC (QO p).1.dropLast,(QO p).1.getLastD [],0)
theorem QF8(p:List UInt8):QKz p=QAw (Zj p).1 (Zj p).2.1 (Zj p).2.2:=by
 unfold QKz Zj
 split
 ·rfl
 ·split<;>rfl
structure Plc where
 fo:Int
 nm:List UInt8
 k:Int
def QMS:Option Nat→Int
 |none=> -1
 |some k=>(k:Nat)
def QK6(f:Int→List UInt8)(q:List UInt8×List UInt8×Int)(r:Int×Int):Plc×Int:=
 if q.2.2≠0 then(⟨0,[],0⟩,q.2.2)else if r.2≠0 then(⟨0,[],0⟩,r.2)else if(Qw f r.1).k≠2 then(⟨0,[],0⟩,6)else(⟨r.1,q.2.1,QMS (Yy f r.1 q.2.1)⟩,0)
def ZN(f:Int→List UInt8)(p:List UInt8):Plc×Int:=QK6 f (Zj p) (ZI f (Zj p).1)
def ZJ(f:Int→List UInt8)(p:List UInt8):Int×Ino×Int:=
 if(ZI f p).2≠0 then(0,QFz,(ZI f p).2)else if(Qw f (ZI f p).1).k≠1 then(0,QFz,6)else((ZI f p).1,Qw f (ZI f p).1,0)
def frI(f:Int→List UInt8):Option Nat:=(List.range 16).find? fun n:Nat=>decide (¬XZ f (n:Nat))
def frE(f:Int→List UInt8):Option Nat:=(List.range 24).find? fun k:Nat=>decide ((QI f (k:Nat)).u=false)
def QDs(f:Int→List UInt8)(b:Int):Bool:=(List.range 16).any fun n:Nat=>decide (XZ f (n:Nat))&&decide (b∈Jv (Qw f (n:Nat)))
def frA(f:Int→List UInt8):List Int:=((List.range 24).filter fun i:Nat=> !(QDs f ((i+1:Nat):Int))).map fun i:Nat=>((i+1:Nat):Int)
def frB(f:Int→List UInt8)(n:Nat):List Int:=(frA f).take n
abbrev Pln:=Int×List Stp
def mkQ(f:Int→List UInt8)(a:Plc×Int)(kind:Int):Pln:=
 if a.2≠0 then(a.2,[])else if 0≤a.1.k then(5,[])else
 match frI f,frE f with
 |some n,some k=>(0,[.wr ⟨1+(n:Nat),Zz ⟨kind,0,0,0,0,0⟩,2,(n:Nat),0⟩,.wr ⟨17+(k:Nat),Qa ⟨true,a.1.fo,a.1.nm,(n:Nat)⟩,3,a.1.fo,0⟩])
 |_,_=>(2,[])
def mkP(f:Int→List UInt8)(p:List UInt8)(kind:Int):Pln:=mkQ f (ZN f p) kind
def nd(z:Int):Nat:=((z+31)/32).toNat
def QHQ(x:Ino)(had:Nat)(fr:List Int)(i:Nat):Int:=if had≤i then fr.getD (i-had) (Q0 x i)else Q0 x i
def Xa(x:Ino)(z:Int)(had:Nat)(fr:List Int):Ino:=⟨x.k,z,QHQ x had fr 0,QHQ x had fr 1,QHQ x had fr 2,QHQ x had fr 3⟩
def QEi(base:List UInt8)(i:Nat)(off:Int)(b:List UInt8):List UInt8:=
 (List.range 32).map fun j:Nat=>if off≤32*(i:Int)+(j:Int)∧32*(i:Int)+(j:Int)<off+(b.length:Int)then b.getD (32*(i:Int)+(j:Int)-off).toNat 0 else base.getD j 0
def QAy(off:Int)(len:Nat)(i:Nat):Bool:=decide (off<32*(i:Int)+32∧32*(i:Int)<off+(len:Int)∧0<len)
def QMT(f:Int→List UInt8)(n:Int)(x y:Ino)(had:Nat)(off:Int)(b:List UInt8)(i:Nat):Stp:= .wr ⟨40+Q0 y i,QEi (if i<had then f (40+Q0 x i)else Qh) i off b,1,n,0⟩
def Z9(f:Int→List UInt8)(n:Int)(x y:Ino)(had:Nat)(off:Int)(b:List UInt8)(k:Nat):List Stp:=((List.range k).filter (QAy off b.length)).map (QMT f n x y had off b)
def QC6(f:Int→List UInt8)(n:Int)(x:Ino)(off:Int)(b:List UInt8):Pln:=
 if off<0∨x.z<off then(1,[])else if 128-off<(b.length:Int)then(2,[])else
 if(frB f (nd (max x.z (off+b.length))-nd x.z)).length≠nd (max x.z (off+b.length))-nd x.z then(2,[])else
 (0,Z9 f n x (Xa x (max x.z (off+b.length)) (nd x.z) (frB f (nd (max x.z (off+b.length))-nd x.z))) (nd x.z) off b 4++
  if Xa x (max x.z (off+b.length)) (nd x.z) (frB f (nd (max x.z (off+b.length))-nd x.z))=x then []else
  [.wr ⟨1+n,Zz (Xa x (max x.z (off+b.length)) (nd x.z) (frB f (nd (max x.z (off+b.length))-nd x.z))),2,n,0⟩])
def QEj(f:Int→List UInt8)(q:Int×Ino×Int)(off:Int)(b:List UInt8):Pln:=if q.2.2≠0 then(q.2.2,[])else QC6 f q.1 q.2.1 off b
def J3(f:Int→List UInt8)(p:List UInt8)(off:Int)(b:List UInt8):Pln:=QEj f (ZJ f p) off b
def QCD(f:Int→List UInt8)(p:List UInt8)(b:List UInt8):Pln:=QEj f (ZJ f p) (ZJ f p).2.1.z b
def trI(x:Ino)(tq:Int):Ino:=⟨x.k,tq,if 0<nd tq then x.b0 else 0,if 1<nd tq then x.b1 else 0,if 2<nd tq then x.b2 else 0,if 3<nd tq then x.b3 else 0⟩
def QOy(q:Int×Ino×Int)(tq:Int):Pln:=
 if q.2.2≠0 then(q.2.2,[])else if tq<0∨q.2.1.z<tq then(1,[])else if tq=q.2.1.z then(0,[])else(0,[.wr ⟨1+q.1,Zz (trI q.2.1 tq),2,q.1,0⟩])
def QBZ(f:Int→List UInt8)(p:List UInt8)(tq:Int):Pln:=QOy (ZJ f p) tq
def QC7(p q:List UInt8):Bool:=decide ((QO p).2=0∧(QO q).2=0∧(QO q).1.length≤(QO p).1.length∧(QO p).1.take (QO q).1.length=(QO q).1)
def QIu(frm tq:List UInt8):Bool:=QC7 tq frm||decide ((QO frm).1.length<(QO tq).1.length)
def QHR(f:Int→List UInt8)(a b:Plc)(x:Ent):Pln:=
 if b.k<0∧a.fo=b.fo then(0,[.wr ⟨17+a.k,Qa x,3,b.fo,0⟩])else
 match (if b.k<0 then frE f else some b.k.toNat)with
 |none=>(2,[])
 |some k=>(0,[.wr ⟨17+(k:Nat),Qa x,3,b.fo,0⟩,.bar,.wr ⟨17+a.k,Qa Q6,3,a.fo,0⟩])
def QMU(f:Int→List UInt8)(frm tq:List UInt8)(a b:Plc×Int):Pln:=
 if(Zj frm).2.2≠0 then((Zj frm).2.2,[])else if(Zj tq).2.2≠0 then((Zj tq).2.2,[])else
 if a.2≠0 then(a.2,[])else if a.1.k<0 then(4,[])else if b.2≠0 then(b.2,[])else
 if frm=tq∨b.1.k=a.1.k then(0,[])else
 if(Qw f (QI f a.1.k).t).k=2∧QIu frm tq=true then(1,[])else
 if 0≤b.1.k∧((Qw f (QI f a.1.k).t).k=2∨(Qw f (QI f b.1.k).t).k=2)then(5,[])else
 QHR f a.1 b.1 ⟨(QI f a.1.k).u,b.1.fo,b.1.nm,(QI f a.1.k).t⟩
def QBa(f:Int→List UInt8)(frm tq:List UInt8):Pln:=QMU f frm tq (ZN f frm) (ZN f tq)
def QMV(f:Int→List UInt8)(a:Plc×Int):Pln:=
 if a.2≠0 then(a.2,[])else if a.1.k<0 then(4,[])else
 if(Qw f (QI f a.1.k).t).k=2∧nms f (QI f a.1.k).t≠[]then(7,[])else(0,[.wr ⟨17+a.1.k,Qa Q6,3,a.1.fo,0⟩])
def QAz(f:Int→List UInt8)(p:List UInt8):Pln:=QMV f (ZN f p)
def runP(bad:List Int)(d:Dk)(x:Pln):Dk×Int:=if x.1≠0 then(d,x.1)else Qt bad d x.2
section
variable {f g:Int→List UInt8} (h:∀n:Int,0≤n→f n=g n)
include h
theorem QJx(n:Int):XZ f n=XZ g n:=by
 unfold XZ
 simp only[Yi h]
theorem QJy(p:Int)(s:List UInt8):Yy f p s=Yy g p s:=by
 unfold Yy
 refine congrArg (fun q=>List.find? q _) (funext fun k=>?_)
 have e:QAi f p s k↔QAi g p s k:=by
  unfold QAi QEf
  simp only[Yi h,X7 h]
 exact decide_eq_decide.2 e
theorem QMW:∀(l:List (List UInt8)) (n:Int),lkp f l n=lkp g l n
 |[],n=>rfl
 |s::t,n=>by
  unfold lkp
  have e:J1 f n s=J1 g n s:=by unfold J1;rw[QJy h,X7 h];simp only[Yi h]
  rw[e,QMW t]
theorem QDt(p:List UInt8):ZI f p=ZI g p:=by unfold ZI;rw[QMW h]
theorem QDK(p:List UInt8):ZN f p=ZN g p:=by
 unfold ZN QK6
 rw[QDt h]
 simp only[X7 h,QJy h]
theorem QDL(p:List UInt8):ZJ f p=ZJ g p:=by
 unfold ZJ
 rw[QDt h,X7 h]
theorem QMX:frE f=frE g:=by
 unfold frE
 simp only[Yi h]
theorem QQo:frI f=frI g:=by
 unfold frI
 simp only[QJx h]
theorem QQp:frA f=frA g:=by
 unfold frA QDs
 simp only[QJx h,X7 h]
theorem QMY(p:List UInt8)(kind:Int):mkP f p kind=mkP g p kind:=by
 unfold mkP mkQ
 rw[QDK h,QQo h,QMX h]
theorem QOz(p:List UInt8)(tq:Int):QBZ f p tq=QBZ g p tq:=by unfold QBZ;rw[QDL h]
theorem QO0(p:Int):nms f p=nms g p:=by
 unfold nms Zv QEf
 simp only[Yi h,X7 h]
theorem QO1(p:List UInt8):QAz f p=QAz g p:=by
 unfold QAz QMV
 rw[QDK h]
 simp only[Yi h,X7 h,QO0 h]
theorem QO2(p q:List UInt8):QBa f p q=QBa g p q:=by
 unfold QBa QMU QHR
 rw[QDK h,QDK h]
 simp only[Yi h,X7 h,QMX h]
end
theorem QUJ{x:Ino}(hx:RI x)(i:Nat):0≤Q0 x i:=by
 rcases hx with h|h
 ·unfold Q0;split<;>omega
 ·unfold Q0;split<;>omega
theorem QJz:RI QFz:= .inl ⟨.inl rfl,rfl,rfl,rfl,rfl,rfl⟩
theorem XO(f:Int→List UInt8)(p:List UInt8):RI (ZJ f p).2.1:=by
 unfold ZJ
 split
 ·exact QJz
 ·split
  ·exact QJz
  ·exact QDr f _
section
variable {f g:Int→List UInt8} (h:∀n:Int,0≤n→f n=g n)
include h
theorem QO3{x:Ino}(hx:RI x)(n:Int)(y:Ino)(had:Nat)(off:Int)(b:List UInt8)(k:Nat):Z9 f n x y had off b k=Z9 g n x y had off b k:=by
 unfold Z9
 refine congrArg (fun q=>List.map q _) (funext fun i=>?_)
 unfold QMT
 rw[h _ (by have:=QUJ hx i;omega)]
theorem QJ0{x:Ino}(hx:RI x)(n:Int)(off:Int)(b:List UInt8):QC6 f n x off b=QC6 g n x off b:=by
 unfold QC6 frB
 rw[QQp h]
 simp only[QO3 h hx]
theorem QO4(p:List UInt8)(off:Int)(b:List UInt8):J3 f p off b=J3 g p off b:=by
 unfold J3 QEj
 rw[←QDL h,QJ0 h (XO f p)]
theorem QO5(p:List UInt8)(b:List UInt8):QCD f p b=QCD g p b:=by
 unfold QCD QEj
 rw[←QDL h,QJ0 h (XO f p)]
end
def QEk(s:List UInt8)(a:Nat)(c:List UInt8):List UInt8:=s.take a++c++s.drop (a+c.length)
theorem QMZ{s:List UInt8}{a:Nat}{c:List UInt8}(h:a+c.length≤s.length):(QEk s a c).length=s.length:=by
 unfold QEk
 simp only[zj,z1,ym];omega
theorem J4(base:List UInt8)(i:Nat)(off:Int)(b:List UInt8):(QEi base i off b).length=32:=by unfold QEi;rw[zb,xl]
def atK(off:Int)(len:Nat)(k:Nat):Int:=min (max off (32*(k:Int))) (off+(len:Int))
theorem QMa{base:List UInt8}(hb:base.length=32){off:Int}{b:List UInt8}{k:Nat}(h0:0≤off)(hk:32*(k:Int)≤off∨off≤32*(k:Int))(hlt:atK off b.length k<off+b.length)(hu:off<32*(k:Int)+32):
  QEk base (atK off b.length k-32*(k:Int)).toNat ((b.drop (atK off b.length k-off).toNat).take (atK off b.length (k+1)-atK off b.length k).toNat)=QEi base k off b:=by
 have e1:atK off b.length k=max off (32*(k:Int)):=by unfold atK at hlt⊢;omega
 have e2:atK off b.length (k+1)=min (32*(k:Int)+32) (off+b.length):=by unfold atK;omega
 rw[e1,e2]at*
 have hl:((b.drop (max off (32*(k:Int))-off).toNat).take (min (32*(k:Int)+32) (off+b.length)-max off (32*(k:Int))).toNat).length=(min (32*(k:Int)+32) (off+b.length)-max off (32*(k:Int))).toNat:=by
  rw[z1,ym];omega
 unfold QEk
 refine ve ?_ fun j h1 h2=>?_
 ·rw [J4,zj,zj,hl,z1,ym];omega
 ·rw [J4]at h2
  have hg:∀(h:j<(QEi base k off b).length),(QEi base k off b)[j]=if off≤32*(k:Int)+(j:Int)∧32*(k:Int)+(j:Int)<off+(b.length:Int)then b.getD (32*(k:Int)+(j:Int)-off).toNat 0 else base.getD j 0:=fun h=>by
   simp only[QEi,zy,xy]
  rw[hg]
  by_cases c1:j<(max off (32*(k:Int))-32*(k:Int)).toNat
  ·rw [zw (by rw[zj,z1];omega),zw (by rw[z1];omega),if_neg (by omega),xj,zk,zi (by omega)];rfl
  ·by_cases c2:j<(max off (32*(k:Int))-32*(k:Int)).toNat+(min (32*(k:Int)+32) (off+b.length)-max off (32*(k:Int))).toNat
   ·rw [zw (by rw[zj,z1,hl];omega),z8 (by rw[z1];omega),if_pos (by omega),xj,xr,zk,zi (by omega),u0]
    congr 1
    rw[z1];omega
   ·rw [z8 (by rw[zj,z1,hl];omega),if_neg (by omega),xr,zk,zi (by omega),u0]
    congr 1
    rw[zj,hl,z1];omega
theorem QFE(f:Int→List UInt8)(n:Int)(x y:Ino)(had:Nat)(off:Int)(b:List UInt8)(k:Nat):Z9 f n x y had off b (k+1)=Z9 f n x y had off b k++if QAy off b.length k=true then [QMT f n x y had off b k]else []:=by
 unfold Z9
 rw[vm,u9,yc]
 congr 1
 by_cases h:QAy off b.length k=true
 ·rw [if_pos h,We h];rfl
 ·rw [if_neg h,Wf h];rfl
theorem QK7{f:Int→List UInt8}{n:Int}{x y:Ino}{had:Nat}{off:Int}{b:List UInt8}{k:Nat}(h:∀i,i<k→QAy off b.length i=false):Z9 f n x y had off b k=[]:=by
 unfold Z9
 rw[List.filter_eq_nil_iff.2 fun i hi=>by rw[h i (y4.1 hi)];simp];rfl
theorem QHS{f:Int→List UInt8}{n:Int}{x y:Ino}{had:Nat}{off:Int}{b:List UInt8}{k:Nat}(hk:∀i,k≤i→QAy off b.length i=false):∀j,Z9 f n x y had off b (k+j)=Z9 f n x y had off b k
 |0=>rfl
 |j+1=>by
  rw[←wg,QFE,QHS hk j,hk (k+j) (by omega)];simp
def QDu(d:Option Dk):List (List UInt8):=match d with
 |none=>[]
 |some dk=>dk.safe
theorem QJ1(d:Option Dk)(hd:Xg d):FnC Tryz.prog 49 [.d (Qd d)] (.d (.fs 32 ((QDu d).map QJ))):=by
 have hn:=QAJ d
 cases d with
 |none=>
  have hn:FnC Tryz.prog 57 [.d (.ot (.pointer none))] (.d (.bl true)):=hn
  refine QL i49 ?_
  (repeat' ((conv=>whnf);first|refine cEk hn ?_|refine QB ?_|intro x hx hu|intro h|refine Spp.mk ?_ ?_))
  rfl
 |some d=>
  obtain⟨nx,safe,wait,log,ep⟩:=d
  have hlen:safe.length≤65:=hd.2.2.1
  by_cases h0:safe=[]
  ·subst h0
   have hn:FnC Tryz.prog 57 [.d (.fp 6 (QE8 ⟨nx,[],wait,log,ep⟩))] (.d (.bl true)):=hn
   refine QL i49 ?_
   (repeat' ((conv=>whnf);first|refine cEk hn ?_|refine QB ?_|intro x hx hu|intro h|refine Spp.mk ?_ ?_))
   rfl
  ·have hne:(safe.map QJ).isEmpty=false:=by
    cases safe with
    |nil=>exact absurd rfl h0
    |cons=>rfl
   have hnb:QCj (some ⟨nx,safe,wait,log,ep⟩)=false:=decide_eq_false fun q=>h0 (yv.1 q)
   rw[hnb]at hn
   have hml':(safe.map QJ).length=safe.length:=zb ..
   refine QL i49 ?_
   (repeat' ((conv=>whnf);first|refine cEk hn ?_|refine CallE.inl ?_|with_reducible refine CallI.inl QA i60 rfl ?_|with_reducible refine Spl.no hne ?_|refine QB ?_|intro x hx hu|intro h|refine Spp.mk ?_ ?_))
   rfl
def QCE(d:Option Dk):AV:=if JN (Yx d)then .tup [.d (.fp 1 [Qd d]),.d (.it .i64 0)]else .tup [.d (.ot (.pointer none)),.d (.it .i64 (if QDu d=[]then 1 else 8))]
theorem QMb(d:Option Dk):(Yx d).length=(QDu d).length:=by
 cases d with
 |none=>rfl
 |some dk=>unfold Yx QDu;simp
theorem QHT(d:Option Dk)(hd:Xg d):FnC Tryz.prog 20 [.d (Qd d)] (QCE d):=by
 have hs:=QJ1 d hd
 have hm:=QDm d hd
 have hl:=QMb d
 have hsl:((QDu d).map QJ).length=(QDu d).length:=zb ..
 unfold QCE
 generalize Qd d=E at*
 by_cases h0:QDu d=[]
 ·have hn:¬JN (Yx d):=fun h=>by
   have:=h.1
   rw[hl,h0]at this;cases this
  rw[if_neg hn,if_pos h0]
  rw[h0]at hs
  refine QL i20 ?_
  (repeat' ((conv=>whnf);first|refine cEk hs ?_|refine QB ?_|intro x hx hu|intro h|refine Spp.mk ?_ ?_))
  rfl
 ·have h0':(QDu d).length≠0:=fun q=>h0 (yv.1 q)
  by_cases hp:JN (Yx d)
  ·rw [if_pos hp]
   rw[decide_eq_true hp]at hm
   refine FnC.introW QA Tryz.func20 rfl Tryz.ntmps20 Tryz.call20 rfl (bll rfl) rfl ?_
   (repeat' ((conv=>whnf);first|refine cEk hs ?_|refine cEk hm ?_|refine QB ?_|intro x hx hu|intro h|refine Spp.mk ?_ ?_))
   refine⟨⟨[(2,.d (.fp 1 [E])),(3,.d (.it .i64 0))],[],1⟩,Wk.frzPL 0 1 [.d E] (by with_unfolding_all exact rfl) (ai ⟨_,by with_unfolding_all exact rfl,.inr ⟨[E],by with_unfolding_all exact rfl,rfl,rfl⟩⟩ (ai ⟨_,by with_unfolding_all exact rfl,.inl rfl⟩ trivial)) trivial rfl,?_⟩
   exact rfl
  ·rw [if_neg hp,if_neg h0]
   rw[decide_eq_false hp]at hm
   refine QL i20 ?_
   (repeat' ((conv=>whnf);first|refine cEk hs ?_|refine cEk hm ?_|refine QB ?_|intro x hx hu|intro h|refine Spp.mk ?_ ?_))
   rfl
theorem QFF(E:D)(dk:Dk)(hE:E=Qd (some dk)):FnC Tryz.prog 50 [.d (.fp 1 [E])] (.d (.bl false)):=by
 have hE:E= .fp 6 (QE8 dk):=hE
 subst hE
 refine QL i50 ?_
 (repeat' ((conv=>whnf);first|refine QB ?_|intro x hx hu|intro h|refine Spp.mk ?_ ?_))
 rfl
theorem Yb(n:Int)(h:0≤n∧n≤1000):FnC Tryz.prog 122 [.d (.it .i64 n)] (.d (.it .i64 ((n+31)/32))):=by
 refine QL QTR ?_
 (repeat' ((conv=>whnf);first|refine QB ?_|intro x hx hu|intro h|refine Spp.mk ?_ ?_))
 refine QQ ?_
 omega
theorem QHU(dk:Dk)(hd:Xg (some dk))(b:Int)(hb: -1000≤b∧b≤1000):FnC Tryz.prog 123 [.d (.fp 1 [Qd (some dk)]),.d (.it .i64 b)] (.dg 32 (QJ (rdS (some dk) (40+b)))):=by
 have h:=QF1 (some dk) hd (41+b-1)
 rw[show rdS (some dk) (41+b-1)=rdS (some dk) (40+b)from congrArg _ (by omega)]at h
 have hs:=Xh hd (40+b)
 have h:FnC Tryz.prog 12 [.d (.fp 6 (QE8 dk)),.d (.it .i64 (41+b-1))] (.tup [.dg 32 (QJ (rdS (some dk) (40+b))),.d (.it .i64 (rdE (some dk) (41+b-1)))]):=h
 show FnC Tryz.prog 123 [.d (.fp 1 [.fp 6 (QE8 dk)]),.d (.it .i64 b)] _
 obtain⟨g,hg⟩:=Zg hs
 rw[hg]at h⊢
 refine QL QTS ?_
 (repeat' ((conv=>whnf);first|refine cEk h ?_|refine QB ?_|intro x hx hu|intro h|refine Spp.mk ?_ ?_))
 all_goals rfl
theorem QHV:∀(l:List (List UInt8)),(∀s∈l,s.length≤8)→(Zm l).length≤9*l.length
 |[],_=>zt _
 |s::t,h=>by
  have h1:=QHV t fun x hx=>h x (zr _ hx)
  have h2:=h s zu
  have e:Zm (s::t)=47::s++Zm t:=rfl
  rw[e,zj,yq,yq];omega
theorem QJ2(p:List UInt8):(Zj p).1.length≤100:=by
 unfold Zj
 split
 ·exact z7 _
 ·split
  ·exact z7 _
  ·have h1:=Jz p
   have h2:=QHV (QO p).1.dropLast fun s hs=>QDk h1.2.1 s (List.dropLast_subset _ hs)
   have h3:(QO p).1.dropLast.length≤4:=by rw[Ww];omega
   unfold XC
   split
   ·show [47].length≤100;decide
   ·show (Zm _).length≤100;omega
def QJ3(a:Plc):List D:=[.it .i64 a.fo,.st a.nm,.it .i64 a.k]
def QSS(a:Plc×Int):AV:= .tup [.dg 3 (QJ3 a.1),.d (.it .i64 a.2)]
theorem Y7(a:Plc):FnC Tryz.prog 146 [.dg 3 (QJ3 a)] (.d (.bl (decide (0≤a.k)))):=by
 obtain⟨fo,nm,k⟩:=a
 refine QL QTc ?_
 (repeat' ((conv=>whnf);first|refine QB ?_|intro x hx hu|intro h|refine Spp.mk ?_ ?_))
 rfl
theorem QBb(dk:Dk)(hd:Xg (some dk))(n:Int):FnC Tryz.prog 127 [.d (.fp 1 [Qd (some dk)]),.d (.it .i64 n)] (.d (.it .i64 (Qw (rdS (some dk)) n).k)):=by
 have hi:=JM (some dk) hd n
 generalize Qd (some dk)=E at*
 generalize Qw (rdS (some dk)) n=x at*
 obtain⟨k,z,b0,b1,b2,b3⟩:=x
 refine QL QTT ?_
 (repeat' ((conv=>whnf);first|refine cEk hi ?_|refine QB ?_|intro x hx hu|intro h|refine Spp.mk ?_ ?_))
 rfl
theorem QDv(dk:Dk)(hd:Xg (some dk))(p:List UInt8)(hp:p.length≤100000):FnC Tryz.prog 144 [.d (.fp 1 [Qd (some dk)]),.d (.st p)] (QSS (ZN (rdS (some dk)) p)):=by
 have h1:=QIk p hp
 rw[QF8]at h1
 have hul:=QJ2 p
 have h2:=QCC (some dk) hd (Zj p).1 (by omega)
 have h3:=QBb dk hd (ZI (rdS (some dk)) (Zj p).1).1
 have h4:=QJt (some dk) hd (ZI (rdS (some dk)) (Zj p).1).1 (Zj p).2.1
 unfold ZN QK6
 generalize ZI (rdS (some dk)) (Zj p).1=r at*
 generalize Zj p=q at*
 obtain⟨up,nm,e⟩:=q
 obtain⟨n,g⟩:=r
 dsimp only at*
 generalize rdS (some dk)=f at*
 generalize Qd (some dk)=E at*
 replace h2:FnC Tryz.prog 13 [.d E,.d (.st up)] (.tup [.d (.it .i64 n),.d (.it .i64 g)]):=h2
 replace h1:FnC Tryz.prog 181 [.d (.st p)] (.tup [.d (.st up),.d (.st nm),.d (.it .i64 e)]):=h1
 generalize (Qw f n).k=kk at*
 by_cases c1:e=0
 ·subst c1
  rw[if_neg (by simp)]
  by_cases c2:g=0
  ·subst c2
   rw[if_neg (by simp)]
   by_cases c3:kk=2
   ·subst c3
    rw[if_neg (by simp)]
    cases hk:Yy f n nm with
    |none=>
     rw[hk]at h4
     replace h4:FnC Tryz.prog 112 [.d E,.d (.it .i64 n),.d (.st nm)] (.tup [.d (.it .i64 0),.d (.bl false)]):=h4
     refine QL QLj ?_
     (repeat' ((conv=>whnf);first|refine cEk h1 ?_|refine cEk h2 ?_|refine cEk h3 ?_|refine cEk h4 ?_|refine QB ?_|intro x hx hu|intro h|refine Spp.mk ?_ ?_))
     rfl
    |some k=>
     rw[hk]at h4
     replace h4:FnC Tryz.prog 112 [.d E,.d (.it .i64 n),.d (.st nm)] (.tup [.d (.it .i64 (k:Nat)),.d (.bl true)]):=h4
     refine QL QLj ?_
     (repeat' ((conv=>whnf);first|refine cEk h1 ?_|refine cEk h2 ?_|refine cEk h3 ?_|refine cEk h4 ?_|refine QB ?_|intro x hx hu|intro h|refine Spp.mk ?_ ?_))
     rfl
   ·rw [if_pos c3]
    refine QL QLj ?_
    (repeat' ((conv=>whnf);first|refine cEk h1 ?_|refine cEk h2 ?_|refine cEk h3 ?_|refine QB ?_|intro x hx hu|intro h|refine Spp.mk ?_ ?_))
    rfl
  ·rw [if_pos c2]
   refine QL QLj ?_
   (repeat' ((conv=>whnf);first|refine cEk h1 ?_|refine cEk h2 ?_|refine QB ?_|intro x hx hu|intro h|refine Spp.mk ?_ ?_))
   rfl
 ·rw [if_pos c1]
  refine QL QLj ?_
  (repeat' ((conv=>whnf);first|refine cEk h1 ?_|refine QB ?_|intro x hx hu|intro h|refine Spp.mk ?_ ?_))
  rfl
def QK8(a:Plc×Int):Plc×Int:=if a.2=0∧a.1.k<0 then(a.1,4)else a
theorem QMc(dk:Dk)(hd:Xg (some dk))(p:List UInt8)(hp:p.length≤100000):FnC Tryz.prog 126 [.d (.fp 1 [Qd (some dk)]),.d (.st p)] (QSS (QK8 (ZN (rdS (some dk)) p))):=by
 have h1:=QDv dk hd p hp
 have h2:=Y7 (ZN (rdS (some dk)) p).1
 generalize ZN (rdS (some dk)) p=a at*
 obtain⟨⟨fo,nm,k⟩,e⟩:=a
 generalize Qd (some dk)=E at*
 replace h1:FnC Tryz.prog 144 [.d (.fp 1 [E]),.d (.st p)] (.tup [.dg 3 [.it .i64 fo,.st nm,.it .i64 k],.d (.it .i64 e)]):=h1
 replace h2:FnC Tryz.prog 146 [.dg 3 [.it .i64 fo,.st nm,.it .i64 k]] (.d (.bl (decide (0≤k)))):=h2
 unfold QK8
 dsimp only
 by_cases c1:e=0
 ·subst c1
  by_cases c2:k<0
  ·rw [if_pos ⟨rfl,c2⟩]
   rw[decide_eq_false (by omega)]at h2
   refine QL QQL ?_
   (repeat' ((conv=>whnf);first|refine cEk h1 ?_|refine cEk h2 ?_|refine QB ?_|intro x hx hu|intro h|refine Spp.mk ?_ ?_))
   rfl
  ·rw [if_neg (by simp[c2])]
   rw[decide_eq_true (by omega)]at h2
   refine QL QQL ?_
   (repeat' ((conv=>whnf);first|refine cEk h1 ?_|refine cEk h2 ?_|refine QB ?_|intro x hx hu|intro h|refine Spp.mk ?_ ?_))
   rfl
 ·rw [if_neg (by simp[c1])]
  refine QL QQL ?_
  (repeat' ((conv=>whnf);first|refine cEk h1 ?_|refine QB ?_|intro x hx hu|intro h|refine Spp.mk ?_ ?_))
  rfl
def QST(q:Int×Ino×Int):AV:= .tup [.d (.it .i64 q.1),.dg 6 (Za q.2.1),.d (.it .i64 q.2.2)]
theorem JR(dk:Dk)(hd:Xg (some dk))(p:List UInt8)(hp:p.length≤100000):FnC Tryz.prog 103 [.d (.fp 1 [Qd (some dk)]),.d (.st p)] (QST (ZJ (rdS (some dk)) p)):=by
 have hl:=QCC (some dk) hd p hp
 have hi:=JM (some dk) hd (ZI (rdS (some dk)) p).1
 have hn:=QFF (Qd (some dk)) dk rfl
 unfold ZJ
 generalize ZI (rdS (some dk)) p=r at*
 obtain⟨n,g⟩:=r
 dsimp only at*
 generalize Qd (some dk)=E at*
 replace hl:FnC Tryz.prog 13 [.d E,.d (.st p)] (.tup [.d (.it .i64 n),.d (.it .i64 g)]):=hl
 generalize Qw (rdS (some dk)) n=x at*
 obtain⟨k,z,b0,b1,b2,b3⟩:=x
 by_cases c1:g=0
 ·subst c1
  rw[if_neg (by simp)]
  by_cases c2:k=1
  ·subst c2
   rw[if_neg (by simp)]
   refine QL QOM ?_
   (repeat' ((conv=>whnf);first|refine cEk hn ?_|refine cEk hl ?_|refine cEk hi ?_|refine QB ?_|intro x hx hu|intro h|refine Spp.mk ?_ ?_))
   rfl
  ·rw [if_pos c2]
   refine QL QOM ?_
   (repeat' ((conv=>whnf);first|refine cEk hn ?_|refine cEk hl ?_|refine cEk hi ?_|refine QB ?_|intro x hx hu|intro h|refine Spp.mk ?_ ?_))
   rfl
 ·rw [if_pos c1]
  refine QL QOM ?_
  (repeat' ((conv=>whnf);first|refine cEk hn ?_|refine cEk hl ?_|refine cEk hi ?_|refine QB ?_|intro x hx hu|intro h|refine Spp.mk ?_ ?_))
  rfl
def QEl(f:Int→List UInt8)(x:Ino)(k:Nat):List (List UInt8):=[f (40+x.b0),f (40+x.b1),f (40+x.b2),f (40+x.b3)].take k
def QA0(f:Int→List UInt8)(p:List UInt8):List UInt8×Int:=if(ZJ f p).2.2≠0 then([],(ZJ f p).2.2)else(JQ f (ZJ f p).2.1,0)
theorem QJ4(d:Dk)(hd:Xg (some d))(p:List UInt8)(hp:p.length≤100000):FnC Tryz.prog 71 [.d (.fp 1 [Qd (some d)]),.d (.st p)] (.tup [.d (.it .i64 (ZJ (rdS (some d)) p).2.1.z),.d (.it .i64 (ZJ (rdS (some d)) p).2.2)]):=by
 have h1:=JR d hd p hp
 generalize ZJ (rdS (some d)) p=q at*
 obtain⟨n,⟨k,z,b0,b1,b2,b3⟩,e⟩:=q
 dsimp only at*
 generalize Qd (some d)=E at*
 replace h1:FnC Tryz.prog 103 [.d (.fp 1 [E]),.d (.st p)] (.tup [.d (.it .i64 n),.dg 6 [.it .i64 k,.it .i64 z,.it .i64 b0,.it .i64 b1,.it .i64 b2,.it .i64 b3],.d (.it .i64 e)]):=h1
 refine QL i71 ?_
 (repeat' ((conv=>whnf);first|refine cEk h1 ?_|refine CallE.inl ?_|refine QB ?_|intro x hx hu|intro h|refine Spp.mk ?_ ?_))
 rfl
theorem QCF(d:Dk)(hd:Xg (some d))(p:List UInt8)(hp:p.length≤100000):FnC Tryz.prog 72 [.d (.fp 1 [Qd (some d)]),.d (.st p)] (.d (.bl (decide ((ZI (rdS (some d)) p).2=0)))):=by
 have h1:=QFF (Qd (some d)) d rfl
 have h2:=QCC (some d) hd p hp
 generalize ZI (rdS (some d)) p=q at*
 obtain⟨n,e⟩:=q
 dsimp only at*
 generalize Qd (some d)=E at*
 replace h2:FnC Tryz.prog 13 [.d E,.d (.st p)] (.tup [.d (.it .i64 n),.d (.it .i64 e)]):=h2
 refine QL i72 ?_
 (repeat' ((conv=>whnf);first|refine cEk h1 ?_|refine cEk h2 ?_|refine CallE.inl ?_|refine QB ?_|intro x hx hu|intro h|refine Spp.mk ?_ ?_))
 refine ZL ?_
 rw[wc,decide_eq_true_eq]
 simp
theorem QMd{b:Bool}{bad:List Int}{d:Dk}{N:Nat}(h:Fd bad d N)(p:List UInt8)(hp:p.length≤100000)(he:(ZJ (rdS (some d)) p).2.2≠0):
  FnH Tryz.prog 70 [.ptr 5 0,.d (.st p)] (Qm b bad d) 6 [0,5] (.tup [.d (.fs 1 []),.d (.it .i64 (ZJ (rdS (some d)) p).2.2)]) (Qm b bad d) 6:=by
 have h1:=JR d h.ok p hp
 generalize ZJ (rdS (some d)) p=q at*
 obtain⟨n,⟨k,z,b0,b1,b2,b3⟩,e⟩:=q
 dsimp only at*
 replace h1:FnC Tryz.prog 103 [.d (.fp 1 [Qd (some d)]),.d (.st p)] (.tup [.d (.it .i64 n),.dg 6 [.it .i64 k,.it .i64 z,.it .i64 b0,.it .i64 b1,.it .i64 b2,.it .i64 b3],.d (.it .i64 e)]):=h1
 refine QR i70 fun T=>?_
 (repeat' ((conv=>whnf);first|refine rFk h1 ?_|refine QB ?_|intro x hx hu|intro h|refine Spp.mk ?_ ?_))
 refine⟨⟨[(4,.d (.fs 1 [])),(5,.d (.it .i64 e))],Qm b bad d++Qs 6 [0,5] T,30⟩,Wk.vwL (ai (Vw.ts' rfl) (ai (Vw.eq rfl) trivial)) (ai (VwO.same _) (ai (VwO.same _) (ai (VwO.same _) (ai (VwO.same _) (ai (VwO.same _) (ai (VwO.same _) (ai (VwO.same _) (ai (VwO.same _) (ai (VwO.same _) trivial))))))))) rfl,rfl,(ai rfl (ai rfl (ai rfl (ai rfl (ai rfl (ai rfl trivial)))))),(ai rfl (ai rfl (ai rfl trivial)))⟩
end Go.Proofs.YtikgcbioagmkkaaGreatDoor
