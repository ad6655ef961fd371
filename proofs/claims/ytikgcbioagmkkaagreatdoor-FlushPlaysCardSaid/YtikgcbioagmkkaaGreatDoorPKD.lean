/- Contracts of the functions that the law reaches, and the law. Conditions: none. -/
import Derived.Test.YtikgcbioagmkkaaGreatDoorPKA
import Derived.Test.YtikgcbioagmkkaaGreatDoorPKB
import Derived.Test.YtikgcbioagmkkaaGreatDoorPSD
import Derived.Test.YtikgcbioagmkkaaGreatDoorPSC
import Derived.Test.YtikgcbioagmkkaaGreatDoorPKC
import Derived.Test.YtikgcbioagmkkaaGreatDoorPSE
set_option maxRecDepth 100000
set_option linter.all false
set_option maxHeartbeats 16000000
namespace Go.Proofs.YtikgcbioagmkkaaGreatDoor
open Go.Sy
def Yt(s:List UInt8):List UInt8:=if(s.getD 3 0).toNat<=16 then(s.drop 16).take (s.getD 3 0).toNat else []
def Ze(s:List UInt8):Ent:=⟨true,(s.getD 1 0).toNat,Yt s,(s.getD 2 0).toNat⟩
def ZD:Ent:=⟨false,0,[],0⟩
def QDx(s:List UInt8):Prop:=RE (Ze s)/\s=Xt (Ze s)
instance(s:List UInt8):Decidable (QDx s):=by unfold QDx;infer_instance
def Ja(s:List UInt8):Ent:=if QDx s then Ze s else ZD
def QAC(s:List UInt8):Bool:=decide (s=Qs\/QDx s)
def QCP(s:List UInt8):AV:= .tup [.dg 4 (Xi (Ja s)),.d (.bl (QAC s))]
theorem QMi:¬QDx Qs:=by
 intro h;have h1:=h.1;unfold RE Ze at h1;rcases h1 with h1|h1
 ·cases h1.1
 ·have:(1:Int)<=((Qs.getD 2 0).toNat:Int):=h1.2.2.2.1;revert this;decide
theorem QMj(s:List UInt8)(hs:s.length=32):FnC Tryz.prog 167 [.dg 32 (QF s)] (QCP s):=by
 have hz:=QO2 s hs;have c1:=(s.getD 1 0).toNat_lt;have c2:=(s.getD 2 0).toNat_lt;have c3:=(s.getD 3 0).toNat_lt;have hc:=QRF s hs (s.getD 3 0).toNat om;have he:=QMc (Ze s);unfold QCP;by_cases h0:s=Qs
 ·subst h0;rw[decide_eq_true rfl]at hz;rw[show Ja Qs=ZD from if_neg QMi,show QAC Qs=true from decide_eq_true (.inl rfl)];refine QJ QOp ?_;(repeat' (conv=>whnf);first|refine cEk hz ?_|with_reducible refine AtA.mk' ?_|refine QA ?_|intro x hx hu|intro h|apply sS);all_goals rfl
 rw[decide_eq_false h0]at hz;have hEq:Xi (Ze s)=[.bl true,.it .i64 (s.getD 1 0).toNat,.st (Yt s),.it .i64 (s.getD 2 0).toNat]:=rfl;by_cases h1:RE (Ze s)
 ·have hel:=QBg _ h1;rw[QDt,if_pos h1]at he;have heq:=eqS s (Xt (Ze s)) (by rw[hs,hel]);by_cases h2:s=Xt (Ze s)
  ·rw [show Ja s=Ze s from if_pos ⟨h1,h2⟩,show QAC s=true from decide_eq_true (.inr ⟨h1,h2⟩)];rw[decide_eq_true h2]at heq;refine QJ QOp ?_;(repeat' (conv=>whnf);first|refine cEk hz ?_|refine cEk he ?_|refine ZK.mk ⟨_,hc,?_⟩|(refine QAw QB mixed ?_)|refine Zy.mk ((QF (Xt (Ze s))).map AV.d) (Xj _) ?_|refine AtA.eq (QM rfl (QN hs 1 (by decide))) ?_|refine AtA.eq (QM rfl (QN hs 2 (by decide))) ?_|refine AtA.eq (QM rfl (QN hs 3 (by decide))) ?_|refine AtA.eq (Qz rfl rfl hs) ?_|refine AtA.eq (Qz rfl rfl hel) ?_|refine ZY (XK _ _ hs hel) ?_|((with_reducible refine QAa ?_);refine⟨Yt s,rfl,?_⟩)|refine QA ?_|intro x hx hu|intro h|apply sS);all_goals rfl
  ·rw [show Ja s=ZD from if_neg (λq=>h2 q.2),show QAC s=false from decide_eq_false (λq=>q.elim h0 λq=>h2 q.2)];rw[decide_eq_false h2]at heq;refine QJ QOp ?_;(repeat' (conv=>whnf);first|refine cEk hz ?_|refine cEk he ?_|refine ZK.mk ⟨_,hc,?_⟩|(refine QAw QB mixed ?_)|refine Zy.mk ((QF (Xt (Ze s))).map AV.d) (Xj _) ?_|refine AtA.eq (QM rfl (QN hs 1 (by decide))) ?_|refine AtA.eq (QM rfl (QN hs 2 (by decide))) ?_|refine AtA.eq (QM rfl (QN hs 3 (by decide))) ?_|refine AtA.eq (Qz rfl rfl hs) ?_|refine AtA.eq (Qz rfl rfl hel) ?_|refine ZY (XK _ _ hs hel) ?_|((with_reducible refine QAa ?_);refine⟨Yt s,rfl,?_⟩)|refine QA ?_|intro x hx hu|intro h|apply sS);all_goals rfl
 ·have hel:Qs.length=32:=rfl;rw[QDt,if_neg h1]at he;rw[show Ja s=ZD from if_neg (λq=>h1 q.1),show QAC s=false from decide_eq_false (λq=>q.elim h0 λq=>h1 q.1)];refine QJ QOp ?_;(repeat' (conv=>whnf);first|refine cEk hz ?_|refine cEk he ?_|refine ZK.mk ⟨_,hc,?_⟩|(refine QAw QB mixed ?_)|refine Zy.mk ((QF Qs).map AV.d) (Xj _) ?_|refine AtA.eq (QM rfl (QN hs 1 (by decide))) ?_|refine AtA.eq (QM rfl (QN hs 2 (by decide))) ?_|refine AtA.eq (QM rfl (QN hs 3 (by decide))) ?_|refine AtA.eq (Qz rfl rfl hs) ?_|refine AtA.eq (Qz rfl rfl hel) ?_|refine ZY (XK _ _ hs hel) ?_|((with_reducible refine QAa ?_);refine⟨Yt s,rfl,?_⟩)|refine QA ?_|intro x hx hu|intro h|apply sS);all_goals rfl
variable {s c last:List UInt8}
theorem QHM(h:QDx s):s.getD 0 0=1/\(s.getD 3 0).toNat<=8:=by
 obtain⟨h1,h2⟩:=h;have hl:(Yt s).length<=8:=by
  unfold RE Ze at h1;rcases h1 with h1|h1
  ·cases h1.1
  ·have:=h1.2.2.2.2.2;unfold Zt at this;simp only[zf,decide_eq_true_eq]at this;exact this.1.2.1
 have e0:s.getD 0 0=1:=by rw[h2];rfl
 have e3:s.getD 3 0=QCL ((Yt s).length:Nat):=by
  have:s.getD 3 0=(Xt (Ze s)).getD 3 0:=by rw[<-h2]
  exact this
 refine⟨e0,?_⟩;have:=QBf (n:=((Yt s).length:Nat)) om;rw[e3];omega
variable {a n k sz i j N q had M n0 n1 n2 n3 n4 o:Nat}
theorem QBj(hn:(s.getD 3 0).toNat<=16){b:Nat}(ha:a=16)(hb:b=(s.getD 3 0).toNat):(((QF s).map AV.d).drop a).take b=(Yt s).map u8A:=by
 subst ha hb;unfold Yt;rw[if_pos hn];unfold QF u8A;rw[kq,uz,kv];rfl
theorem QHN(s:List UInt8)(hs:s.length=32):FnC Tryz.prog 138 [.dg 32 (QF s)] (QCP s):=by
 have c0:=(s.getD 0 0).toNat_lt;have c1:=(s.getD 1 0).toNat_lt;have c2:=(s.getD 2 0).toNat_lt;have c3:=(s.getD 3 0).toNat_lt;unfold QCP;by_cases hx:s.getD 0 0=1/\(s.getD 3 0).toNat<=8
 ·obtain ⟨x0,x3⟩:=hx;have h0:¬s=Qs:=by intro h;rw[h]at x0;cases x0
  have x0':((s.getD 0 0).toNat:Int)=1:=by rw[x0];rfl
  have he:=QCM (Ze s);by_cases h1:RE (Ze s)
  ·have hel:=QBg _ h1;rw[QDt,if_pos h1]at he;have heq:=eqS (Xt (Ze s)) s (by rw[hs,hel]);by_cases h2:s=Xt (Ze s)
   ·rw [show Ja s=Ze s from if_pos ⟨h1,h2⟩,show QAC s=true from decide_eq_true (.inr ⟨h1,h2⟩)];rw[decide_eq_true h2.symm]at heq;refine QJ QMJ ?_;(repeat' (conv=>whnf);first|refine cEk he ?_|refine Zy.mk ((QF (Xt (Ze s))).map AV.d) (Xj _) ?_|refine AtA.eq (QM rfl (QN hs 0 (by decide))) ?_|refine AtA.eq (QM rfl (QN hs 1 (by decide))) ?_|refine AtA.eq (QM rfl (QN hs 2 (by decide))) ?_|refine AtA.eq (QM rfl (QN hs 3 (by decide))) ?_|refine AtA.eq (Qz rfl rfl hs) ?_|refine AtA.eq (Qz rfl rfl hel) ?_|refine ZY (XK _ _ hel hs) ?_|((with_reducible refine QAa ?_);refine⟨Yt s,⟨?_,QBj om ?_ ?_⟩,?_⟩)|refine QA ?_|intro x hx hu|intro h|apply sS);all_goals first|rfl|(show 0+Int.toNat 16*1+((16+((s.getD 3 0).toNat:Int)).toNat-Int.toNat 16)<=32;omega)|(show((16+((s.getD 3 0).toNat:Int)).toNat-Int.toNat 16)=_;omega)
   ·rw [show Ja s=ZD from if_neg (λq=>h2 q.2),show QAC s=false from decide_eq_false (λq=>q.elim h0 λq=>h2 q.2)];rw[decide_eq_false (vb h2)]at heq;refine QJ QMJ ?_;(repeat' (conv=>whnf);first|refine cEk he ?_|refine Zy.mk ((QF (Xt (Ze s))).map AV.d) (Xj _) ?_|refine AtA.eq (QM rfl (QN hs 0 (by decide))) ?_|refine AtA.eq (QM rfl (QN hs 1 (by decide))) ?_|refine AtA.eq (QM rfl (QN hs 2 (by decide))) ?_|refine AtA.eq (QM rfl (QN hs 3 (by decide))) ?_|refine AtA.eq (Qz rfl rfl hs) ?_|refine AtA.eq (Qz rfl rfl hel) ?_|refine ZY (XK _ _ hel hs) ?_|((with_reducible refine QAa ?_);refine⟨Yt s,⟨?_,QBj om ?_ ?_⟩,?_⟩)|refine QA ?_|intro x hx hu|intro h|apply sS);all_goals first|rfl|(show 0+Int.toNat 16*1+((16+((s.getD 3 0).toNat:Int)).toNat-Int.toNat 16)<=32;omega)|(show((16+((s.getD 3 0).toNat:Int)).toNat-Int.toNat 16)=_;omega)
  ·have hel:Qs.length=32:=rfl;rw[QDt,if_neg h1]at he;rw[show Ja s=ZD from if_neg (λq=>h1 q.1),show QAC s=false from decide_eq_false (λq=>q.elim h0 λq=>h1 q.1)];refine QJ QMJ ?_;(repeat' (conv=>whnf);first|refine cEk he ?_|refine Zy.mk ((QF Qs).map AV.d) (Xj _) ?_|refine AtA.eq (QM rfl (QN hs 0 (by decide))) ?_|refine AtA.eq (QM rfl (QN hs 1 (by decide))) ?_|refine AtA.eq (QM rfl (QN hs 2 (by decide))) ?_|refine AtA.eq (QM rfl (QN hs 3 (by decide))) ?_|refine AtA.eq (Qz rfl rfl hs) ?_|refine AtA.eq (Qz rfl rfl hel) ?_|refine ZY (XK _ _ hel hs) ?_|((with_reducible refine QAa ?_);refine⟨Yt s,⟨?_,QBj om ?_ ?_⟩,?_⟩)|refine QA ?_|intro x hx hu|intro h|apply sS);all_goals first|rfl|(show 0+Int.toNat 16*1+((16+((s.getD 3 0).toNat:Int)).toNat-Int.toNat 16)<=32;omega)|(show((16+((s.getD 3 0).toNat:Int)).toNat-Int.toNat 16)=_;omega)
 ·have hne:¬QDx s:=λh=>hx (QHM h);have hx':(s.getD 0 0).toNat=1->¬(s.getD 3 0).toNat<=8:=λh1 h2=>hx ⟨qj.1 h1,h2⟩;have hel:Qs.length=32:=rfl;have h1:RE ZD:=by decide
  have he:=QCM ZD;rw[QDt,if_pos h1,show Xt ZD=Qs from rfl]at he;have heq:=eqS Qs s (by rw[hs];rfl);rw[show Ja s=ZD from if_neg hne];by_cases h0:Qs=s
  ·rw [decide_eq_true h0]at heq;rw[show QAC s=true from decide_eq_true (.inl h0.symm)];refine QJ QMJ ?_;(repeat' (conv=>whnf);first|refine cEk he ?_|refine Zy.mk ((QF Qs).map AV.d) (Xj _) ?_|refine AtA.eq (QM rfl (QN hs 0 (by decide))) ?_|refine AtA.eq (QM rfl (QN hs 1 (by decide))) ?_|refine AtA.eq (QM rfl (QN hs 2 (by decide))) ?_|refine AtA.eq (QM rfl (QN hs 3 (by decide))) ?_|refine AtA.eq (Qz rfl rfl hs) ?_|refine AtA.eq (Qz rfl rfl hel) ?_|refine ZY (XK _ _ hel hs) ?_|((with_reducible refine QAa ?_);refine⟨Yt s,⟨?_,QBj om ?_ ?_⟩,?_⟩)|refine QA ?_|intro x hx hu|intro h|apply sS);all_goals first|rfl|(show 0+Int.toNat 16*1+((16+((s.getD 3 0).toNat:Int)).toNat-Int.toNat 16)<=32;omega)|(show((16+((s.getD 3 0).toNat:Int)).toNat-Int.toNat 16)=_;omega)
  ·rw [decide_eq_false h0]at heq;rw[show QAC s=false from decide_eq_false (λq=>q.elim (λq=>h0 q.symm) hne)];refine QJ QMJ ?_;(repeat' (conv=>whnf);first|refine cEk he ?_|refine Zy.mk ((QF Qs).map AV.d) (Xj _) ?_|refine AtA.eq (QM rfl (QN hs 0 (by decide))) ?_|refine AtA.eq (QM rfl (QN hs 1 (by decide))) ?_|refine AtA.eq (QM rfl (QN hs 2 (by decide))) ?_|refine AtA.eq (QM rfl (QN hs 3 (by decide))) ?_|refine AtA.eq (Qz rfl rfl hs) ?_|refine AtA.eq (Qz rfl rfl hel) ?_|refine ZY (XK _ _ hel hs) ?_|((with_reducible refine QAa ?_);refine⟨Yt s,⟨?_,QBj om ?_ ?_⟩,?_⟩)|refine QA ?_|intro x hx hu|intro h|apply sS);all_goals first|rfl|(show 0+Int.toNat 16*1+((16+((s.getD 3 0).toNat:Int)).toNat-Int.toNat 16)<=32;omega)|(show((16+((s.getD 3 0).toNat:Int)).toNat-Int.toNat 16)=_;omega)
structure Wr where
 a:Int
 s:List UInt8
 k:Int
 i:Int
 e:Int
deriving DecidableEq
def QR(w:Wr):List D:=[.it .i64 w.a]++QF w.s++[.it .i64 w.k,.it .i64 w.i,.it .i64 w.e]
structure Dk where
 nx:Int
 safe:List (List UInt8)
 wait:List Wr
 log:List (List D)
 ep:Int
def QFJ(d:Dk):List D:=[.an,.it .i64 d.nx,.fs 32 (d.safe.map QF),.fs 36 (d.wait.map QR),.fs 38 d.log,.it .i64 d.ep]
def Qg:Option Dk->D
 |none=> .ot (.pointer none)
 |some d=> .fp 6 (QFJ d)
def Xu:Option Dk->Prop
 |none=>True
 |some d=>(∀s∈d.safe,s.length=32)/\(∀w∈d.wait,w.s.length=32)/\d.safe.length<=65/\d.wait.length<=100000
def QA5:Option Dk->Bool
 |none=>true
 |some d=>decide (d.safe.length=0)
def QHO(d:Option Dk)(n:Int):Prop:=
 match d with
 |none=>False
 |some d=>0<=n/\n<d.safe.length
instance(d:Option Dk)(n:Int):Decidable (QHO d n):=by unfold QHO;cases d<;>infer_instance
def YW(n:Int)(w:List Wr):Option (List UInt8):=(w.reverse.find? (λx=>decide (x.a=n))).map (·.s)
def rdS(d:Option Dk)(n:Int):List UInt8:=
 match d with
 |none=>Qs
 |some d=>if 0<=n/\n<d.safe.length then(match YW n d.wait with|some s=>s|none=>d.safe.getD n.toNat Qs)else Qs
def rdE(d:Option Dk)(n:Int):Int:=if QHO d n then 0 else 1
theorem Yd{d:Option Dk}(h:Xu d)(n:Int):(rdS d n).length=32:=by
 cases d with
 |none=>rfl
 |some d=>
  obtain⟨h1,h2,_⟩:=h;simp only[rdS];split
  ·split
   ·rename_i s hs;simp only[YW,u5]at hs;obtain⟨w,hw,rfl⟩:=hs;exact h2 w (by simpa using km hw)
   ·rw [zr];cases hq:d.safe[n.toNat]? with
    |none=>rfl
    |some s=>exact h1 s (ya hq)
  ·rfl
theorem Ye(d:Option Dk):FnC Tryz.prog 57 [.d (Qg d)] (.d (.bl (QA5 d))):=by
 cases d with
 |none=>
  refine QJ i57 ?_;(repeat' (conv=>whnf);first|refine QA ?_|intro x hx hu|intro h|apply sS);rfl
 |some d=>
  refine QJ i57 ?_;(repeat' (conv=>whnf);first|refine QA ?_|intro x hx hu|intro h|apply sS);refine ZW ?_;show(((d.safe.map QF).length:Int)==0)=decide (d.safe.length=0);rw[zb,x8,beq_iff_eq,decide_eq_true_eq];omega
theorem QRI(d:Option Dk)(n:Int):FnC Tryz.prog 51 [.d (Qg d),.d (.it .i64 n)] (.d (.bl (decide (QHO d n)))):=by
 have hn:=Ye d;cases d with
 |none=>
  refine QJ i51 ?_;(repeat' (conv=>whnf);first|refine cEk hn ?_|refine QA ?_|intro x hx hu|intro h|apply sS);rfl
 |some d=>
  by_cases h:d.safe.length=0
  ·rw [show QA5 (some d)=true from decide_eq_true h]at hn;refine QJ i51 ?_;(repeat' (conv=>whnf);first|refine cEk hn ?_|refine QA ?_|intro x hx hu|intro h|apply sS);exact Xw (by show¬(0<=n/\n<d.safe.length);omega)
  ·rw [show QA5 (some d)=false from decide_eq_false h]at hn;refine QJ i51 ?_;(repeat' (conv=>whnf);first|refine cEk hn ?_|refine QA ?_|intro x hx hu|intro h|apply sS);all_goals first
    |exact Xw (by show¬(0<=n/\n<d.safe.length);omega)
    |exact QBD (by show n<((d.safe.map QF).length:Int)↔(0<=n/\n<(d.safe.length:Int));rw[zb];omega)
theorem QAD{α β:Type}{e:α->β}{l:List α}{n:Int}{x:α}{K:β->Prop}(h0:0<=n/\n<l.length)(hx:l[n.toNat]? =some x)(h:K (e x)):
  (0<=n/\n<(l.map e).length)/\∀c,(l.map e)[n.toNat]? =some c->K c:=
 QK5 h0 λy hy=>by rw[hx]at hy;obtain rfl:=za hy;exact h
variable {w:Wr}
theorem QMk(h:w.s.length=32):(QR w).length=36:=by unfold QR;simp[Za,h]
variable {l:List D}
theorem QMl(h:l.length=n):l.map AV.d=[]++(l.take n).map AV.d++[]:=by
 rw[z8 om,xf,y4]
theorem QI6{n:Int}{l:List Wr}(h:∀j,j<k->∀x,l.reverse[j]? =some x->x.a≠n)(hw:l.reverse[k]? =some w)(ha:w.a=n):YW n l=some w.s:=by
 unfold YW;have hk:=(z6.1 hw).1;rw[kw.2 ⟨by simpa using ha,k,hk,(z6.1 hw).2,λj hj=>by
  have:=h j hj _ (zj om);simpa using this⟩]
 rfl
theorem QHP{n:Int}{l:List Wr}(h:∀j,j<l.length->∀x,l.reverse[j]? =some x->x.a≠n):YW n l=none:=by
 unfold YW;rw[Option.map_eq_none_iff,qq];intro x hx;obtain⟨j,hj,rfl⟩:=v6 hx;have:=h j (by simpa using hj) _ (zj hj);simpa using this
variable {d:Dk}
theorem hpd{n:Int}:QHO (some d) n↔(0<=n/\n<d.safe.length):=Iff.rfl
variable {ty:Ty}
theorem ldW(hs:w.s.length=32)(ha:ty.kd.agg=true)(hz:ty.size=32):ldA ty 1 ((QR w).map AV.d)= .dg 32 (QF w.s):=by
 unfold ldA;rw[ha,cond_true,hz];have h1:(((QR w).map AV.d).drop 1).take 32=(QF w.s).map AV.d:=by
  show((QF w.s++_).map AV.d).take 32=_;rw[ye,ua (by rw[zb,Za,hs];exact zt _),z8 (by rw[zb,Za,hs];exact zt _)]
 rw[h1];unfold QE1;rw[JZ]
theorem QGD(d:Option Dk)(hd:Xu d)(n:Int):FnC Tryz.prog 12 [.d (Qg d),.d (.it .i64 n)] (.tup [.dg 32 (QF (rdS d n)),.d (.it .i64 (rdE d n))]):=by
 have hh:=QRI d n;by_cases h:QHO d n
 rotate_left
 ·rw [decide_eq_false h]at hh;rw[show rdE d n=1 from if_neg h,show rdS d n=Qs by cases d with|none=>rfl|some d=>exact if_neg h];refine QJ i12 ?_;(repeat' (conv=>whnf);first|refine cEk hh ?_|with_reducible refine AtA.mk' ?_|refine QA ?_|intro x hx hu|intro h|apply sS);rfl
 rw[decide_eq_true h]at hh;cases d with
 |none=>exact h.elim
 |some d=>
  obtain⟨hd1,hd2,hd3,hd4⟩:=hd;obtain⟨h0,h1⟩:=hpd.1 h;rw[show rdE (some d) n=0 from if_pos h,show rdS (some d) n=(match YW n d.wait with|some s=>s|none=>d.safe.getD n.toNat Qs)from if_pos h];generalize hR:(match YW n d.wait with|some s=>s|none=>d.safe.getD n.toNat Qs)=R;refine QJ i12 ?_;(repeat' (conv=>whnf);first|refine cEk hh ?_|refine cI i52 ?_|with_reducible refine AtA.mk' ?_|refine gOI ?_|intro x hx hu|intro h|apply sS);conv=>whnf
  refine Ya.intro QB QUD rfl rfl ?_;(repeat' (conv=>whnf);first|refine QA ?_|intro x hx hu|intro h|apply sS);have hwl:(d.wait.map QR).length=d.wait.length:=zb ..;refine QFx QB (λk:Nat=>k<=d.wait.length/\∀j,j<k->∀x,d.wait.reverse[j]? =some x->x.a≠n) (λk=>[(0,.yld 6),(1,.ptr 4 0),(3,.d (.it .i64 ((d.wait.length:Nat)-1-(k:Nat))))]) (λk=>d.wait.length-k) 0 ⟨z7 _,λj hj=>by omega⟩ ⟨rfl,rfl,QK (by rw[hwl];omega),trivial⟩ rfl ?_;intro k ⟨k1,k2⟩;rcases yj k d.wait.length with hkl|hkl
  ·obtain ⟨w,hw⟩:=Qo (l:=d.wait) (k:=d.wait.length-1-k) om;have hw':d.wait[((d.wait.length:Int)-1-k).toNat]? =some w:=by rw[show((d.wait.length:Int)-1-k).toNat=d.wait.length-1-k by omega];exact hw
   have hrev:d.wait.reverse[k]? =some w:=by rw[List.getElem?_reverse hkl];exact hw
   have hws:=hd2 w (ya hw);(repeat' (conv=>whnf);first|with_reducible refine QCd.intro QB wu wu wu ?_|refine Zy.mk ((QR w).map AV.d) (QMl (QMk hws)) ?_|refine Zy.mk ((QF w.s).map AV.d) (Xj _) ?_|refine AtA.eq (ldW hws rfl rfl) ?_|with_reducible refine AtA.mk' ?_|with_reducible refine QAD (x:=w) om hw' ?_|refine QA ?_|intro x hx hu|intro h|apply sS)
   ·have:R=w.s:=by rw[<-hR,QI6 k2 hrev (by assumption)]
    subst this;conv=>whnf
    conv in (ldA _ _ _)=>tactic=>exact Qz rfl rfl hws
    rfl
   ·refine QLA (k+1) ⟨by omega,λj hj x hx=>?_⟩ (by dsimp only;omega) (ai rfl (ai rfl (ai (QK om) trivial))) (by (repeat (first|exact trivial|refine ai rfl ?_))) rfl;rcases yj j k with hjk|hjk
    ·exact k2 j hjk x hx
    ·obtain rfl:j=k:=by omega
     obtain rfl:w=x:=za (hrev.symm.trans hx);assumption
  ·have:R=d.safe.getD n.toNat Qs:=by rw[<-hR,QHP (λj hj=>k2 j om)]
   obtain⟨s,hsn⟩:=Qo (l:=d.safe) (k:=n.toNat) om;have hsl:=hd1 s (ya hsn);rw[zr,hsn]at this;have this:R=s:=this;rw[this];(repeat' (conv=>whnf);first|refine Zy.mk ((QF s).map AV.d) (QMl (by rw[Za];exact hsl)) ?_|with_reducible refine AtA.mk' ?_|with_reducible refine QAD (x:=s) om hsn ?_|refine QA ?_|intro x hx hu|intro h|apply sS);conv=>whnf
   conv in (ldA _ _ _)=>tactic=>exact Qz rfl rfl hsl
   rfl
def QHQ(s:List UInt8):Prop:=RI (Zj s)/\s=QDG (Zj s)
instance(s:List UInt8):Decidable (QHQ s):=by unfold QHQ;infer_instance
def QCu(s:List UInt8):Ino:=if QHQ s then Zj s else QGC
theorem QCQ(s:List UInt8):QCN s= .tup [.dg 6 (Zn (QCu s)),.d (.bl (decide (QHQ s)))]:=by
 unfold QCN QCu;by_cases h:QHQ s
 ·have h':RI (Zj s)/\s=QDG (Zj s):=h;rw[if_pos h',if_pos h,decide_eq_true h]
 ·have h':¬(RI (Zj s)/\s=QDG (Zj s)):=h;rw[if_neg h',if_neg h,decide_eq_false h]
def Qu(f:Int->List UInt8)(n:Int):Ino:=if 0<=n/\n<16 then QCu (f (1+n))else QGC
def QG(f:Int->List UInt8)(k:Int):Ent:=if 0<=k/\k<24 then Ja (f (17+k))else ZD
def imS(m:List (List UInt8))(n:Int):List UInt8:=m.getD n.toNat Qs
def XL(m:List (List UInt8)):Prop:=∀s∈m,s.length=32
variable {m L:List (List UInt8)}
theorem QDR(h:XL m)(n:Int):(imS m n).length=32:=by
 unfold imS;rw[zr];cases hq:m[n.toNat]? with
 |none=>rfl
 |some s=>exact h s (ya hq)
abbrev Q9(m:List (List UInt8)):D:= .fs 32 (m.map QF)
theorem QQn(d:Option Dk)(hd:Xu d)(n:Int):FnC Tryz.prog 165 [.d (Qg d),.d (.it .i64 n)] (.dg 32 (QF (rdS d n))):=by
 have hr:=QGD d hd n;have hl:=Yd hd n;refine QJ QUc ?_;(repeat' (conv=>whnf);first|refine cEk hr ?_|refine Zy.mk ((QF (rdS d n)).map AV.d) (Xj _) ?_|refine AtA.eq (Qz rfl rfl hl) ?_|refine QA ?_|intro x hx hu|intro h|apply sS);conv=>whnf
 conv in (ldA _ _ _)=>tactic=>exact Qz rfl rfl hl
 rfl
theorem QHR(m:List (List UInt8))(hm:XL m)(n:Int)(h0:0<=n):FnC Tryz.prog 139 [.d (Q9 m),.d (.it .i64 n)] (.dg 32 (QF (imS m n))):=by
 have hl:=QDR hm n;have hml:(m.map QF).length=m.length:=zb ..;refine QJ QUT ?_;rcases Int.lt_or_le n (m.length:Int)with h|h
 ·obtain ⟨s,hs⟩:=Qo (l:=m) (k:=n.toNat) om;have he:imS m n=s:=by unfold imS;rw[zr,hs];rfl
  rw[he]at hl⊢;(repeat' (conv=>whnf);first|refine Zy.mk ((QF s).map AV.d) (QMl (by rw[Za];exact hl)) ?_|with_reducible refine AtA.mk' ?_|with_reducible refine QAD (x:=s) om hs ?_|refine QA ?_|intro x hx hu|intro h|apply sS);all_goals try omega
  conv=>whnf
  conv in (ldA _ _ _)=>tactic=>exact Qz rfl rfl hl
  rfl
 ·have he:imS m n=Qs:=by unfold imS;rw[zr,wo om];rfl
  rw[he];(repeat' (conv=>whnf);first|with_reducible refine AtA.mk' ?_|refine QA ?_|intro x hx hu|intro h|apply sS);all_goals first|omega|rfl
theorem YG(d:Option Dk)(hd:Xu d)(n:Int):FnC Tryz.prog 111 [.d (Qg d),.d (.it .i64 n)] (.dg 6 (Zn (Qu (rdS d) n))):=by
 by_cases h:0<=n/\n<16
 ·have ha:=QQn d hd (1+n);have hi:=QHK (rdS d (1+n)) (Yd hd _);rw[QCQ]at hi;rw[show Qu (rdS d) n=QCu (rdS d (1+n))from if_pos h];refine QJ QSk ?_;(repeat' (conv=>whnf);first|refine cEk ha ?_|refine cEk hi ?_|refine QA ?_|intro x hx hu|intro h|apply sS);rfl
 ·rw [show Qu (rdS d) n=QGC from if_neg h];refine QJ QSk ?_;by_cases h0:n<0;all_goals (repeat' (conv=>whnf);first|refine QA ?_|intro x hx hu|intro h|apply sS)
  all_goals first|omega|rfl
theorem Zb(m:List (List UInt8))(hm:XL m)(n:Int):FnC Tryz.prog 86 [.d (Q9 m),.d (.it .i64 n)] (.dg 6 (Zn (Qu (imS m) n))):=by
 by_cases h:0<=n/\n<16
 ·have ha:=QHR m hm (1+n) om;have hi:=QHL (imS m (1+n)) (QDR hm _);rw[QCQ]at hi;rw[show Qu (imS m) n=QCu (imS m (1+n))from if_pos h];refine QJ i86 ?_;(repeat' (conv=>whnf);first|refine cEk ha ?_|refine cEk hi ?_|refine QA ?_|intro x hx hu|intro h|apply sS);rfl
 ·rw [show Qu (imS m) n=QGC from if_neg h];refine QJ i86 ?_;by_cases h0:n<0;all_goals (repeat' (conv=>whnf);first|refine QA ?_|intro x hx hu|intro h|apply sS)
  all_goals first|omega|rfl
theorem YH(d:Option Dk)(hd:Xu d)(n:Int):FnC Tryz.prog 113 [.d (Qg d),.d (.it .i64 n)] (.dg 4 (Xi (QG (rdS d) n))):=by
 by_cases h:0<=n/\n<24
 ·have ha:=QQn d hd (17+n);have hi:=QMj (rdS d (17+n)) (Yd hd _);rw[QCP]at hi;rw[show QG (rdS d) n=Ja (rdS d (17+n))from if_pos h];refine QJ QSl ?_;(repeat' (conv=>whnf);first|refine cEk ha ?_|refine cEk hi ?_|refine QA ?_|intro x hx hu|intro h|apply sS);rfl
 ·rw [show QG (rdS d) n=ZD from if_neg h];refine QJ QSl ?_;by_cases h0:n<0;all_goals (repeat' (conv=>whnf);first|refine QA ?_|intro x hx hu|intro h|apply sS)
  all_goals first|omega|rfl
theorem Zc(m:List (List UInt8))(hm:XL m)(n:Int):FnC Tryz.prog 85 [.d (Q9 m),.d (.it .i64 n)] (.dg 4 (Xi (QG (imS m) n))):=by
 by_cases h:0<=n/\n<24
 ·have ha:=QHR m hm (17+n) om;have hi:=QHN (imS m (17+n)) (QDR hm _);rw[QCP]at hi;rw[show QG (imS m) n=Ja (imS m (17+n))from if_pos h];refine QJ i85 ?_;(repeat' (conv=>whnf);first|refine cEk ha ?_|refine cEk hi ?_|refine QA ?_|intro x hx hu|intro h|apply sS);rfl
 ·rw [show QG (imS m) n=ZD from if_neg h];refine QJ i85 ?_;by_cases h0:n<0;all_goals (repeat' (conv=>whnf);first|refine QA ?_|intro x hx hu|intro h|apply sS)
  all_goals first|omega|rfl
def Xd(f:Int->List UInt8)(n:Int):Prop:=n=0\/∃k:Nat,k<24/\(QG f k).u=true/\(QG f k).t=n
instance(f:Int->List UInt8)(n:Int):Decidable (Xd f n):=by unfold Xd;infer_instance
theorem QCv(m:List (List UInt8))(hm:XL m)(n:Int):FnC Tryz.prog 132 [.d (Q9 m),.d (.it .i64 n)] (.d (.bl (decide (Xd (imS m) n)))):=by
 have he:=λk=>Zc m hm k;refine QJ QUQ ?_;(repeat' (conv=>whnf);first|refine QA ?_|intro x hx hu|intro h|apply sS);conv=>whnf
 refine QT QB (λk:Nat=>k<=24/\∀j:Nat,j<k->¬((QG (imS m) j).u=true/\(QG (imS m) j).t=n)) (λk:Nat=>⟨[(0,.d (Q9 m)),(1,.d (.it .i64 n)),(5,.d (.it .i64 (k:Nat)))],[],0⟩) (λk=>24-k) 0 ⟨z7 _,λj hj=>by omega⟩ ⟨ai rfl rr,trivial,rfl⟩ ?_;intro k ⟨k1,k2⟩;rcases yj k 24 with hk|hk
 ·have hek:=he (k:Nat);cases hu:(QG (imS m) k).u with
  |false=>
   have hek':Xi (QG (imS m) k)=[.bl false,.it .i64 (QG (imS m) k).p,.st (QG (imS m) k).n,.it .i64 (QG (imS m) k).t]:=by rw[Xi,hu]
   rw[hek']at hek;(repeat' (conv=>whnf);first|refine cEk hek ?_|refine QA ?_|intro x hx hu|intro h|apply sS);refine again (k+1) ⟨by omega,λj hj=>?_⟩ (by dsimp only;omega) (ai rfl (ai rfl (ai (QK om) trivial))) trivial rfl;rcases yj j k with hjk|hjk
   ·exact k2 j hjk
   ·obtain rfl:j=k:=by omega
    rw[hu];simp
  |true=>
   have hek':Xi (QG (imS m) k)=[.bl true,.it .i64 (QG (imS m) k).p,.st (QG (imS m) k).n,.it .i64 (QG (imS m) k).t]:=by rw[Xi,hu]
   rw[hek']at hek;(repeat' (conv=>whnf);first|refine cEk hek ?_|refine QA ?_|intro x hx hu|intro h|apply sS)
   ·exact QCt (.inr ⟨k,hk,hu,by assumption⟩)
   ·refine again (k+1) ⟨by omega,λj hj=>?_⟩ (by dsimp only;omega) (ai rfl (ai rfl (ai (QK om) trivial))) trivial rfl;rcases yj j k with hjk|hjk
    ·exact k2 j hjk
    ·obtain rfl:j=k:=by omega
     exact λhq=>(by assumption:¬_) hq.2
 ·(repeat' (conv=>whnf);first|refine QA ?_|intro x hx hu|intro h|apply sS);refine QQl ?_;rw[beq_iff_eq];refine⟨λh=> .inl h,λh=>h.elim id fun⟨j,hj,h1,h2⟩=>absurd ⟨h1,h2⟩ (k2 j om)⟩
def QAE:List UInt8:=[70,76,79,84,0,0,0,0,0,0,0,0,0,0,0,0,0,0,0,0,0,0,0,0,0,0,0,0,0,0,0,0]
theorem QHS:FnC Tryz.prog 101 [] (.dg 32 (QF QAE)):=by
 refine QJ QUC ?_;(repeat' (conv=>whnf);first|with_reducible refine AtA.mk' ?_|refine QA ?_|intro x hx hu|intro h|apply sS);rfl
theorem QMm:FnC Tryz.prog 154 [] (.dg 32 (QF QAE)):=by
 have hf:=QGA 0 4;refine QJ QUX ?_;(repeat' (conv=>whnf);first|refine JD.vec ?_|refine OpX.conv QB rfl rfl wu wu wu (bll rfl) wu rfl wu rfl ?_|refine cEk hf ?_|refine cI QUk ?_|refine cI QSv ?_|with_reducible refine AtA.mk' ?_|refine gOI ?_|intro x hx hu|intro h|apply sS);rfl
def QBk(m:List (List UInt8)):Prop:=m.length=65/\imS m 0=QAE/\QHQ (imS m 1)/\(QCu (imS m 1)).k=2
instance(m:List (List UInt8)):Decidable (QBk m):=by unfold QBk;infer_instance
theorem QDS(ha:ty.kd.agg=true)(hz:ty.size=32)(hs:s.length=32):ldD ty (QF s)= .dg 32 (QF s):=by
 unfold ldD;rw[ha,cond_true,hz,z8 (by rw[Za,hs];exact zt _)]
variable {b fl:Bool}
variable {A B:Prop}
theorem QMn(h:Spl b A B):Spl b A B:=h
theorem QU9(h:b=true):(!b)=false:=by rw[h];rfl
theorem QVA(h:b=false):(!b)=true:=by rw[h];rfl
theorem QLd(m:List (List UInt8))(hm:XL m):FnC Tryz.prog 100 [.d (Q9 m)] (.d (.bl (decide (QBk m)))):=by
 have hml:(m.map QF).length=m.length:=zb ..;by_cases h:m.length=65
 ·obtain ⟨s0,hs0⟩:=Qo (l:=m) (k:=0) om;obtain⟨s1,hs1⟩:=Qo (l:=m) (k:=1) om;have l0:=hm s0 (ya hs0);have l1:=hm s1 (ya hs1);have e0:imS m 0=s0:=by unfold imS;rw[zr];show(m[0]?).getD _=_;rw[hs0];rfl
  have e1:imS m 1=s1:=by unfold imS;rw[zr];show(m[1]?).getD _=_;rw[hs1];rfl
  have hs0':m[(0:Int).toNat]? =some s0:=hs0;have hs1':m[(1:Int).toNat]? =some s1:=hs1;have hsup:=QMm;have hi:=QHK s1 l1;rw[QCQ]at hi;have hP:QBk m↔(s0=QAE/\QHQ s1/\(QCu s1).k=2):=by unfold QBk;rw[e0,e1];exact⟨λq=>q.2,λq=>⟨h,q⟩⟩
  have heq:=eqS s0 QAE (by rw[l0];rfl);have hlk:=XK s0 QAE l0 rfl;by_cases h0:s0=QAE
  ·rw [decide_eq_true h0]at heq;by_cases h1:QHQ s1;all_goals (
    first|rw[decide_eq_true h1]at hi|rw[decide_eq_false h1]at hi
    refine QJ QQz ?_;(repeat' (conv=>whnf);first|with_reducible refine QAD (x:=s0) om hs0' ?_|with_reducible refine QAD (x:=s1) om hs1' ?_|refine AtA.eq (QDS rfl rfl l0) ?_|refine AtA.eq (QDS rfl rfl l1) ?_|refine ZK.mk ⟨_,hsup,?_⟩|refine cEk hsup ?_|refine cEk hi ?_|refine ZY hlk ?_|((with_reducible refine QMn ?_);refine Spl.no (QU9 heq) ?_)|refine QA ?_|intro x hx hu|intro h|apply sS);all_goals first|exact Xw (λq=>h1 (hP.1 q).2.1)|(refine QQl ?_;rw[beq_iff_eq,hP];exact⟨λq=>⟨h0,h1,q⟩,λq=>q.2.2⟩)|skip)
  ·rw [decide_eq_false h0]at heq;refine QJ QQz ?_;(repeat' (conv=>whnf);first|with_reducible refine QAD (x:=s0) om hs0' ?_|with_reducible refine QAD (x:=s1) om hs1' ?_|refine AtA.eq (QDS rfl rfl l0) ?_|refine AtA.eq (QDS rfl rfl l1) ?_|refine ZK.mk ⟨_,hsup,?_⟩|refine cEk hsup ?_|refine cEk hi ?_|refine ZY hlk ?_|((with_reducible refine QMn ?_);refine Spl.yes (QVA heq) ?_)|refine QA ?_|intro x hx hu|intro h|apply sS);all_goals exact Xw (λq=>h0 (hP.1 q).1)
 ·refine QJ QQz ?_;(repeat' (conv=>whnf);first|refine QA ?_|intro x hx hu|intro h|apply sS);all_goals first|omega|exact Xw (λq=>h q.1)
def Qv(g:Nat->UInt8):List UInt8:=[g 0,g 1,g 2,g 3,g 4,g 5,g 6,g 7,g 8,g 9,g 10,g 11,g 12,g 13,g 14,g 15,g 16,g 17,g 18,g 19,g 20,g 21,g 22,g 23,g 24,g 25,g 26,g 27,g 28,g 29,g 30,g 31]
theorem ZO(h:s.length=32):∃g,s=Qv g:=by
 refine⟨λi=>s.getD i 0,?_⟩;refine vg (by rw[h];rfl) λi h1 h2=>?_;have h3:Qv (λi=>s.getD i 0)=(List.range 32).map (λi=>s.getD i 0):=rfl;simp only[h3,z1,x5];rw[zr,zj h1];rfl
def QMo(w:Wr):List D:=[.it .i64 1]++QR w++[.fs 2 []]
def okW(n:Nat)(w:Wr):Bool:=decide (0<=w.a/\w.a<n)
def wts(n:Nat)(ws:List Wr):List Wr:=(ws.filter (okW n)).map λw=> {w with e:=0}
def QTN(m:List (List UInt8))(ws:List Wr):Option Dk:=if 1<=m.length/\m.length<=65 then some ⟨ws.length,m,wts m.length ws,(wts m.length ws).map QMo,0⟩else none
def QVB(ws:List Wr):Prop:=∀w∈ws,w.s.length=32
def Y9(d:Option Dk):List (List UInt8):=match d with
 |none=>[]
 |some dk=>(List.range dk.safe.length).map λk:Nat=>rdS d (k:Nat)
theorem QO7{d:Option Dk}(h:Xu d):XL (Y9 d):=by
 intro s hs;cases d with
 |none=>cases hs
 |some dk=>
  obtain⟨k,_,rfl⟩:=yf.1 hs;exact Yd h _
theorem QRJ(h:l.length=n):XP n 1 ([]++l++[])=[l]:=by
 show [([]++l++[]).take n]=_;rw[xf,y4,z8 om]
theorem QQo{b:Nat}(h:a=b):AV.vx sz n i a=AV.vx sz n i b:=by rw[h]
theorem QRK{t:Nat}{a b:List (List D)}{f:Bool}(h:a=b):Ob.vec t sz a f=Ob.vec t sz b f:=by rw[h]
theorem QO8(hj:j=k)(hk:k<L.length):(L.map QF).take j++[QF s]++(L.map QF).drop (j+1)=(L.set k s).map QF:=by
 subst hj;rw[ui,if_pos hk,ye,w8,uz,kv,x4];rfl
def mtA(d:Option Dk)(i:Nat):S:=⟨[(0,.d (Qg d)),(3,.ts 32 (((List.range i).map λk:Nat=>rdS d (k:Nat)).map QF) 0),(7,.d (.it .i64 (i:Nat)))],[(0,.tail 37 true)],1⟩
theorem QDy(d:Option Dk)(hd:Xu d):FnC Tryz.prog 45 [.d (Qg d)] (.d (.bl (decide (QBk (Y9 d))))):=by
 have hm:=QLd _ (QO7 hd);have hil:(Y9 d).length<=65:=by
  cases d with
  |none=>exact z7 _
  |some dk=>
   show((List.range dk.safe.length).map _).length<=65;rw[zb,xj];exact hd.2.2.1
 have hhas:∀i:Nat,QHO d i↔i<(Y9 d).length:=λi=>by
  cases d with
  |none=>exact⟨λh=>h.elim,λh=>absurd h (Nat.not_lt_zero _)⟩
  |some dk=>
   show(0<=(i:Int)/\(i:Int)<dk.safe.length)↔i<((List.range dk.safe.length).map _).length;rw[zb,xj];omega
 have himg:((List.range (Y9 d).length).map λk:Nat=>rdS d (k:Nat))=Y9 d:=by
  cases d with
  |none=>rfl
  |some dk=>
   show((List.range ((List.range dk.safe.length).map _).length).map _)=_;rw[zb,xj];rfl
 refine QJ i45 ?_;(repeat' (conv=>whnf);first|refine QA ?_|intro x hx hu|intro h|apply sS);conv=>whnf
 refine QT QB (λi:Nat=>i<=(Y9 d).length) (mtA d) (λi=>66-i) 0 (z7 _) ⟨ai rfl rr,ai rfl trivial,rfl⟩ ?_;intro i hi;have hr:=QGD d hd i;have hlen:(((List.range i).map λk:Nat=>rdS d (k:Nat)).map QF).length=i:=by simp
 rcases yj i (Y9 d).length with hlt|hge
 ·rw [show rdE d i=0 from if_pos ((hhas i).2 hlt)]at hr;have hs:=Yd hd i;have hrl:(List.range i).length=i:=xj;(repeat' (conv=>whnf);first|refine cEk hr ?_|refine Zy.mk ((QF (rdS d i)).map AV.d) (Xj _) ?_|refine AtA.eq (Qz rfl rfl hs) ?_|refine QA ?_|intro x hx hu|intro h|apply sS);refine again (i+1) om (by dsimp only;omega) (ai rfl (ai (QFu ?_) (ai (QK om) trivial))) rr rfl;rw[vp,ye,ye];exact congrArg _ (QRJ (by rw[Za];exact hs))
 ·have hie:i=(Y9 d).length:=by omega
  rw[show rdE d i=1 from if_neg (λq=>by have:=(hhas i).1 q;omega)]at hr;have hmi:FnC Tryz.prog 100 [.d (.fs 32 ((((List.range i).map λk:Nat=>rdS d (k:Nat))).map QF))] (.d (.bl (decide (QBk (Y9 d))))):=by rw[hie,himg];exact hm
  by_cases h65:i<65
  ·(repeat' (conv=>whnf);first|refine cEk hr ?_|refine cEk hmi ?_|refine Zy.mk ((QF (rdS d i)).map AV.d) (Xj _) ?_|refine QA ?_|intro x hx hu|intro h|apply sS);rfl
  ·(repeat' (conv=>whnf);first|refine cEk hmi ?_|refine QA ?_|intro x hx hu|intro h|apply sS);rfl
def QBF(m:List (List UInt8))(w:Wr):List (List UInt8):=if 0<=w.a/\w.a<m.length then m.set w.a.toNat w.s else m
def QY(m:List (List UInt8))(ws:List Wr):List (List UInt8):=ws.foldl QBF m
theorem QMp(m:List (List UInt8))(w:Wr):(QBF m w).length=m.length:=by unfold QBF;split<;>simp
theorem Z2(m:List (List UInt8)):∀ws:List Wr,(QY m ws).length=m.length:=by
 intro ws;induction ws generalizing m with
 |nil=>rfl
 |cons w t ih=>
  show(QY (QBF m w) t).length=_;rw[ih,QMp]
theorem QI7(m:List (List UInt8)){ws:List Wr}{x:Wr}(hx:ws[i]? =some x):QY m (ws.take (i+1))=QBF (QY m (ws.take i)) x:=by
 unfold QY;rw[QW hx,vz];rfl
def QEt(f:Int->List UInt8)(p:Int)(k:Nat):Prop:=(QG f k).u=true/\(QG f k).p=p/\(Qu f (QG f k).t).k≠0
instance(f:Int->List UInt8)(p:Int)(k:Nat):Decidable (QEt f p k):=by unfold QEt;infer_instance
def QAz(f:Int->List UInt8)(p:Int)(s:List UInt8)(k:Nat):Prop:=QEt f p k/\(QG f k).n=s
instance(f:Int->List UInt8)(p:Int)(s:List UInt8)(k:Nat):Decidable (QAz f p s k):=by unfold QAz;infer_instance
def JA(f:Int->List UInt8)(p:Int)(s:List UInt8):Option Nat:=(List.range 24).find? λk=>decide (QAz f p s k)
def JT(o:Option Nat):AV:=match o with
 |some k=> .tup [.d (.it .i64 (k:Nat)),.d (.bl true)]
 |none=> .tup [.d (.it .i64 0),.d (.bl false)]
variable {f g:Int->List UInt8}
variable {p off:Int}
theorem QFK(hk:k<24)(h:QAz f p s k)(hn:∀j:Nat,j<k->¬QAz f p s j):JA f p s=some k:=by
 unfold JA;refine kw.2 ⟨decide_eq_true h,k,by simpa using hk,by simp,λj hj=>?_⟩;simp only[x5];simpa using hn j hj
theorem QFL(hn:∀j:Nat,j<24->¬QAz f p s j):JA f p s=none:=by
 unfold JA;rw[qq];intro j hj;simpa using hn j (xd.1 hj)
def fdA(F1 F2:Func)(d:Option Dk)(p:Int)(s:List UInt8)(k:Nat):S:=⟨[(0,.yld 12),(1,.ptr 10 0),(5,.d (.it .i64 (k:Nat)))],
  [(12,rgL 11 F1),(11,.frame 30 [(1,.ptr 4 0),(2,.ptr 5 0),(3,.ptr 8 0)]),(10,.cells 1 [.d (Qg d)]),(8,.cells 1 [.yld 7]),(7,rgL 6 F2),(6,.frame 21 [(5,.ptr 0 0),(6,.ptr 1 0),(7,.ptr 2 0)]),
   (5,.cells 1 [.d (.it .i64 p)]),(4,.cells 1 [.d (Qg d)]),(2,.cells 1 [.d (.bl false)]),(1,.cells 1 [.d (.it .i64 0)]),(0,.cells 1 [.d (.st s)])],13⟩
theorem QKI(d:Option Dk)(hd:Xu d)(p:Int)(s:List UInt8):FnC Tryz.prog 112 [.d (Qg d),.d (.it .i64 p),.d (.st s)] (JT (JA (rdS d) p s)):=by
 have he:=λk=>YH d hd k;generalize hR:JT (JA (rdS d) p s)=R;have hRP:R.isP=true:=by rw[<-hR];unfold JT;split<;>rfl
 refine FnC.intro QB Tryz.func112 rfl Tryz.ntmps112 Tryz.call112 rfl (bll rfl) hRP ?_;(repeat' (conv=>whnf);first|refine cI QSx ?_|refine gOI ?_|intro x hx hu|intro h|apply sS);conv=>whnf
 refine Ya.intro QB QS4 rfl rfl ?_;(repeat' (conv=>whnf);first|refine cI QS5 ?_|refine gOI ?_|intro x hx hu|intro h|apply sS);conv=>whnf
 refine Ya.intro QB QS7 rfl rfl ?_;(repeat' (conv=>whnf);first|refine QA ?_|intro x hx hu|intro h|apply sS);conv=>whnf
 refine Q7.wk (τ:=fdA Tryz.f213 Tryz.f112 d p s 0) (Wk.enF rr (by (repeat (first|exact trivial|refine ai (JW rfl wu) ?_|refine ai (JV wu (by (repeat (first|exact trivial|refine ai wu ?_)))) ?_))) rfl) ?_;conv=>whnf
 refine Ql QB (λk:Nat=>k<=24/\∀j:Nat,j<k->¬QAz (rdS d) p s j) (fdA Tryz.f213 Tryz.f112 d p s) (λk=>24-k) 0 ⟨z7 _,λj hj=>by omega⟩ (Wk.en ⟨ai rfl rr,(by (repeat (first|exact trivial|refine ai rfl ?_))),rfl⟩) ?_;intro k hk0;have k1:=hk0.1;have k2:=hk0.2;by_cases hk:k<24
 ·have hek:=he (k:Nat);have next:¬QAz (rdS d) p s k->∀j:Nat,j<k+1->¬QAz (rdS d) p s j:=λhn j hj=>by
   rcases yj j k with hjk|hjk
   ·exact k2 j hjk
   ·obtain rfl:j=k:=by omega
    exact hn
  by_cases hu:(QG (rdS d) k).u=false
  ·have hek':Xi (QG (rdS d) k)=[.bl false,.it .i64 (QG (rdS d) k).p,.st (QG (rdS d) k).n,.it .i64 (QG (rdS d) k).t]:=by rw[Xi,hu]
   rw[hek']at hek;(repeat' (conv=>whnf);first|refine cEk hek ?_|refine QA ?_|intro x hx hu|intro h|apply sS);refine⟨k+1,⟨by omega,next (λq=>by rw[q.1.1]at hu;cases hu)⟩,by dsimp only;omega,Wk.enF (ai rfl (ai rfl (ai (QK om) trivial))) (by (repeat (first|exact trivial|refine ai (JW rfl wu) ?_|refine ai (JV wu (by (repeat (first|exact trivial|refine ai wu ?_)))) ?_))) rfl⟩
  ·have hu':(QG (rdS d) k).u=true:=by simpa using hu
   have hek':Xi (QG (rdS d) k)=[.bl true,.it .i64 (QG (rdS d) k).p,.st (QG (rdS d) k).n,.it .i64 (QG (rdS d) k).t]:=by rw[Xi,hu']
   rw[hek']at hek;have hin:=YG d hd (QG (rdS d) k).t;(repeat' (conv=>whnf);first|refine cEk hek ?_|refine cEk hin ?_|with_reducible refine QCd.intro QB wu wu wu ?_|refine QA ?_|intro x hx hu|intro h|apply sS)
   ·have hv:JT (JA (rdS d) p s)=JT (some k):=by rw[QFK hk ⟨⟨hu',by assumption,by assumption⟩,by assumption⟩ k2]
    exact hv.symm.trans hR
   ·refine ⟨k+1,⟨by omega,next (λq=>(by assumption:¬_) q.2)⟩,by dsimp only;omega,Wk.enF (ai rfl (ai rfl (ai (QK om) trivial))) (by (repeat (first|exact trivial|refine ai (JW rfl wu) ?_|refine ai (JV wu (by (repeat (first|exact trivial|refine ai wu ?_)))) ?_))) rfl⟩
   ·refine ⟨k+1,⟨by omega,next (λq=>q.1.2.2 (by assumption))⟩,by dsimp only;omega,Wk.enF (ai rfl (ai rfl (ai (QK om) trivial))) (by (repeat (first|exact trivial|refine ai (JW rfl wu) ?_|refine ai (JV wu (by (repeat (first|exact trivial|refine ai wu ?_)))) ?_))) rfl⟩
   ·refine ⟨k+1,⟨by omega,next (λq=>(by assumption:¬_) q.1.2.1)⟩,by dsimp only;omega,Wk.enF (ai rfl (ai rfl (ai (QK om) trivial))) (by (repeat (first|exact trivial|refine ai (JW rfl wu) ?_|refine ai (JV wu (by (repeat (first|exact trivial|refine ai wu ?_)))) ?_))) rfl⟩
 ·(repeat' (conv=>whnf);first|refine QA ?_|intro x hx hu|intro h|apply sS);have hv:JT (JA (rdS d) p s)=JT none:=by rw[QFL λj hj=>k2 j om]
  exact hv.symm.trans hR
def JI(l:List (List UInt8)):List (List UInt8):=l.mergeSort λx y=>decide (x<=y)
def vS(l:List (List UInt8)):List (List D):=l.map λz=>[.st z]
theorem QCR(l:List (List UInt8)):(JI l).length=l.length:=je _
theorem QMq(t:Nat)(fl:Bool)(zs:List (List UInt8))(n:Nat)(hn:zs.length=n)(h0:0<n)(hsz:n<4611686018427387904):FnM Tryz.prog 174 true [.vx 1 0 0 n] (.vec t 1 (vS zs) fl) (.vec t 1 (vS (JI zs)) fl) (.tup []):=by
 subst hn;exact FnM.ofRow (λl:List UInt8=>Value.string ⟨l.toArray⟩) (λz=> .st z) (λF x=> .st _) (λF x v h=>by cases h;rfl) (m:=none) (je _) h0 (λq h=>by cases h) Tryz.call174 (λblk off cap w hH hb hc=>(Tryz.slices_Sort_string blk off cap zs w hH hb hsz).mono λe w' h=>h)
theorem QHT(t:Nat)(fl:Bool)(n:Nat)(zs:List (List UInt8))(hn:zs.length=n)(h0:0<n)(hsz:n<4611686018427387904):FnM Tryz.prog 175 true [.vx 1 0 0 n] (.vec t 1 (vS zs) fl) (.vec t 1 (vS (Lib.compact zs++List.replicate (zs.length-(Lib.compact zs).length) [])) fl) (.vx 1 0 0 (Lib.compact zs).length):=by
 subst hn;exact FnM.ofRow (λl:List UInt8=>Value.string ⟨l.toArray⟩) (λz=> .st z) (λF x=> .st _) (λF x v h=>by cases h;rfl) (m:=some (Lib.compact zs).length) (by have:=Lib.compact_length_le zs;simp;omega) h0 (λq h=>by cases h;exact Lib.compact_length_le zs) Tryz.call175 (λblk off cap w hH hb hc=>(Tryz.slices_Compact_string blk off cap zs w hH om hc).mono λe w' ⟨h1,q,h2⟩=>⟨h1,q,#[],by rw[Go.Sort.grow_empty];exact h2⟩)
def Z6(f:Int->List UInt8)(p:Int)(k:Nat):List (List UInt8):=((List.range k).filter λj=>decide (QEt f p j)).map λj:Nat=>(QG f (j:Nat)).n
def nms(f:Int->List UInt8)(p:Int):List (List UInt8):=Lib.compact (JI (Z6 f p 24))
theorem QDz(f:Int->List UInt8)(p:Int)(k:Nat):(Z6 f p k).length<=k:=by
 unfold Z6;rw[zb];exact xy (u9 _ _) (by rw[xj];exact zt _)
theorem QHU(h:QEt f p k):Z6 f p (k+1)=Z6 f p k++[(QG f (k:Nat)).n]:=by
 unfold Z6;rw[vp,vr,ye];simp[h]
theorem QDT(h:¬QEt f p k):Z6 f p (k+1)=Z6 f p k:=by
 unfold Z6;rw[vp,vr,ye];simp[h]
def lsA(F1 F2:Func)(d:Option Dk)(p:Int)(k:Nat)(L:List (List UInt8)):S:=⟨[(0,.yld 11),(1,.ptr 9 0),(5,.d (.it .i64 (k:Nat)))],
  [(11,rgL 10 F1),(10,.frame 30 [(1,.ptr 3 0),(2,.ptr 4 0),(3,.ptr 7 0)]),(9,.cells 1 [.d (Qg d)]),(7,.cells 1 [.yld 6]),(6,rgL 5 F2),(5,.frame 23 [(5,.ptr 1 0)]),
   (4,.cells 1 [.d (.it .i64 p)]),(3,.cells 1 [.d (Qg d)]),(1,.cells 1 [.vx 1 12 0 L.length]),(12,.vec 9 1 (vS L) false)],13⟩
variable {σ τ:S}
theorem QKJ{τ':S}(e:τ'=τ)(h:Wk N σ τ'):Wk N σ τ:=by rw[<-e];exact h
theorem QRL{x:List UInt8}(h:n=L.length):(vS L).take n++[[.st x]]=vS (L++[x]):=by
 subst h;unfold vS;rw[z8 (by rw[zb];exact zt _),ye];rfl
theorem QO9(d:Option Dk)(hd:Xu d)(p:Int):FnC Tryz.prog 128 [.d (Qg d),.d (.it .i64 p)] (.d (.fs 1 (vS (nms (rdS d) p)))):=by
 have he:=λk=>YH d hd k;refine QJ QUN ?_;(repeat' (conv=>whnf);first|refine cI QSx ?_|refine gOI ?_|intro x hx hu|intro h|apply sS);conv=>whnf
 refine Ya.intro QB QS4 rfl rfl ?_;(repeat' (conv=>whnf);first|refine cI QS5 ?_|refine gOI ?_|intro x hx hu|intro h|apply sS);conv=>whnf
 refine Ya.intro QB QS7 rfl rfl ?_;(repeat' (conv=>whnf);first|refine QA ?_|intro x hx hu|intro h|apply sS);conv=>whnf
 refine Q7.wk (Wk.nlVx 1 0 1 1 9 wu wu) ?_;refine Q7.wk (τ:=lsA Tryz.f213 Tryz.f128 d p 0 []) (Wk.enF rr (by (repeat (first|exact trivial|refine ai (JW rfl wu) ?_|refine ai (JV wu (by (repeat (first|exact trivial|refine ai wu ?_)))) ?_))) rfl) ?_;conv=>whnf
 refine Ql QB (λk:Nat=>k<=24) (λk:Nat=>lsA Tryz.f213 Tryz.f128 d p k (Z6 (rdS d) p k)) (λk=>24-k) 0 (z7 _) (Wk.en ⟨ai rfl rr,(by (repeat (first|exact trivial|refine ai rfl ?_))),rfl⟩) ?_;intro k k1;by_cases hk:k<24
 ·have hek:=he (k:Nat);have hln:=QDz (rdS d) p k;have hlv:(vS (Z6 (rdS d) p k)).length=(Z6 (rdS d) p k).length:=zb ..;by_cases hu:(QG (rdS d) k).u=false
  ·have hek':Xi (QG (rdS d) k)=[.bl false,.it .i64 (QG (rdS d) k).p,.st (QG (rdS d) k).n,.it .i64 (QG (rdS d) k).t]:=by rw[Xi,hu]
   rw[hek']at hek;have hno:Z6 (rdS d) p (k+1)=Z6 (rdS d) p k:=QDT (λq=>by rw[q.1]at hu;cases hu);(repeat' (conv=>whnf);first|refine cEk hek ?_|refine QA ?_|intro x hx hu|intro h|apply sS);refine⟨k+1,by omega,by dsimp only;omega,QKJ (congrArg (lsA Tryz.f213 Tryz.f128 d p (k+1)) hno.symm) (Wk.enF (ai rfl (ai rfl (ai (QK om) trivial))) (by (repeat (first|exact trivial|refine ai (JW rfl wu) ?_|refine ai (JV wu (by (repeat (first|exact trivial|refine ai wu ?_)))) ?_))) rfl)⟩
  ·have hu':(QG (rdS d) k).u=true:=by simpa using hu
   have hek':Xi (QG (rdS d) k)=[.bl true,.it .i64 (QG (rdS d) k).p,.st (QG (rdS d) k).n,.it .i64 (QG (rdS d) k).t]:=by rw[Xi,hu']
   rw[hek']at hek;have hin:=YG d hd (QG (rdS d) k).t;(repeat' (conv=>whnf);first|refine cEk hek ?_|refine cEk hin ?_|with_reducible refine QCd.intro QB wu wu wu ?_|refine JC.mk (vS (Z6 (rdS d) p k++[(QG (rdS d) k).n])) (QRL rfl).symm ?_|refine XO.eq (Z6 (rdS d) p k++[(QG (rdS d) k).n]).length (by rw[zu];rfl) ?_|refine QA ?_|intro x hx hu|intro h|apply sS)
   ·have hyes:=QHU (f:=rdS d) (p:=p) (k:=k) ⟨hu',by assumption,by assumption⟩;refine⟨k+1,by omega,by dsimp only;omega,QKJ (congrArg (lsA Tryz.f213 Tryz.f128 d p (k+1)) hyes.symm) (Wk.enF (ai rfl (ai rfl (ai (QK om) trivial))) (by (repeat (first|exact trivial|refine ai (JW rfl wu) ?_|refine ai (JV wu (by (repeat (first|exact trivial|refine ai wu ?_)))) ?_))) rfl)⟩
   ·have hno:Z6 (rdS d) p (k+1)=Z6 (rdS d) p k:=QDT (λq=>q.2.2 (by assumption));refine⟨k+1,by omega,by dsimp only;omega,QKJ (congrArg (lsA Tryz.f213 Tryz.f128 d p (k+1)) hno.symm) (Wk.enF (ai rfl (ai rfl (ai (QK om) trivial))) (by (repeat (first|exact trivial|refine ai (JW rfl wu) ?_|refine ai (JV wu (by (repeat (first|exact trivial|refine ai wu ?_)))) ?_))) rfl)⟩
   ·have hno:Z6 (rdS d) p (k+1)=Z6 (rdS d) p k:=QDT (λq=>(by assumption:¬_) q.2.1);refine⟨k+1,by omega,by dsimp only;omega,QKJ (congrArg (lsA Tryz.f213 Tryz.f128 d p (k+1)) hno.symm) (Wk.enF (ai rfl (ai rfl (ai (QK om) trivial))) (by (repeat (first|exact trivial|refine ai (JW rfl wu) ?_|refine ai (JV wu (by (repeat (first|exact trivial|refine ai wu ?_)))) ?_))) rfl)⟩
 ·have hk24:k=24:=by omega
  have hln:=QDz (rdS d) p k;have hR:nms (rdS d) p=Lib.compact (JI (Z6 (rdS d) p k)):=by unfold nms;rw[hk24]
  by_cases hL:(Z6 (rdS d) p k).length=0
  ·have hnil:Z6 (rdS d) p k=[]:=yx.1 hL;have hR0:nms (rdS d) p=[]:=by
    rw[hR,hnil];exact yx.1 (Nat.le_zero.1 (by have:=Lib.compact_length_le (JI ([]:List (List UInt8)));rw[QCR]at this;exact this))
   (repeat' (conv=>whnf);first|refine CallI.none0 Tryz.call174 Tryz.slices_Sort_string_none wu hL ?_|refine CallI.same0 Tryz.call175 Tryz.slices_Compact_string_empty wu hL ?_|refine gOI ?_|intro x hx hu|intro h|apply sS);refine QQv ?_;rw[hR0,hnil];rfl
  ·have hpos:0<(Z6 (rdS d) p k).length:=by omega
   have hcl:(Lib.compact (JI (Z6 (rdS d) p k))).length<=(JI (Z6 (rdS d) p k)).length:=Lib.compact_length_le _;(repeat' (conv=>whnf);first|refine CallI.byM (QMq 9 false (Z6 (rdS d) p k) _ rfl hpos om) wu rfl ?_|refine CallI.byM (QHT 9 false (Z6 (rdS d) p k).length (JI (Z6 (rdS d) p k)) (QCR _) hpos om) wu rfl ?_|refine gOI ?_|intro x hx hu|intro h|apply sS);refine ai ?_ ?_
   ·show 0+(Lib.compact (JI (Z6 (rdS d) p k))).length<=(vS (Lib.compact (JI (Z6 (rdS d) p k))++_)).length;unfold vS;rw[zb,zu];omega
   ·(repeat' (conv=>whnf);first|refine QA ?_|intro x hx hu|intro h|apply sS);refine QQv ?_;rw[hR];show(List.drop 0 (vS (_++_))).take _=_;unfold vS;rw[vl,ye,Wx (zb ..)]
def QAF(f:Int->List UInt8)(n:Int)(s:List UInt8):Int×Int:=if(Qu f n).k=2 then(match JA f n s with|none=>(0,4)|some k=>((QG f (k:Nat)).t,0))else(0,6)
def QA6(x:Int×Int):AV:= .tup [.d (.it .i64 x.1),.d (.it .i64 x.2)]
theorem QPA(d:Option Dk)(hd:Xu d)(n:Int)(s:List UInt8):FnC Tryz.prog 54 [.d (Qg d),.d (.it .i64 n),.d (.st s)] (QA6 (QAF (rdS d) n s)):=by
 have hi:=YG d hd n;have hf:=QKI d hd n s;unfold QAF;by_cases h2:(Qu (rdS d) n).k=2
 ·rw [if_pos h2];cases hk:JA (rdS d) n s with
  |none=>
   rw[hk,JT]at hf;refine QJ i54 ?_;(repeat' (conv=>whnf);first|refine cEk hi ?_|refine cEk hf ?_|refine QA ?_|intro x hx hu|intro h|apply sS);rfl
  |some k=>
   rw[hk,JT]at hf;have he:=YH d hd (k:Nat);refine QJ i54 ?_;(repeat' (conv=>whnf);first|refine cEk hi ?_|refine cEk hf ?_|refine cEk he ?_|refine QA ?_|intro x hx hu|intro h|apply sS);rfl
 ·rw [if_neg h2];refine QJ i54 ?_;(repeat' (conv=>whnf);first|refine cEk hi ?_|refine QA ?_|intro x hx hu|intro h|apply sS);rfl
def lkp(f:Int->List UInt8):List (List UInt8)->Int->Int×Int
 |[],n=>(n,0)
 |s::t,n=>if(QAF f n s).2=0 then lkp f t (QAF f n s).1 else(0,(QAF f n s).2)
def Qj(f:Int->List UInt8)(p:List UInt8):Int×Int:=if(QO p).2=0 then lkp f (QO p).1 0 else(0,(QO p).2)
def lkI(f:Int->List UInt8)(ns:List (List UInt8))(r:Int×Int)(x:Nat×Int):Prop:=x.1<=ns.length/\lkp f (ns.drop x.1) x.2=r
theorem QI8{p:List UInt8}(h:¬(QO p).2=0):(QO p).1=[]:=by
 unfold QO at h⊢;split
 ·rfl
 ·rename_i h1;rw[if_neg h1]at h;cases p with
  |nil=>rfl
  |cons b r=>
   simp only at h⊢;split
   ·rename_i h2;rw[if_pos h2]at h;split
    ·rename_i h3;rw[if_pos h3]at h;exact(h rfl).elim
    ·rfl
   ·rfl
theorem Zf(p:List UInt8):(QO p).1.length<=4:=by
 unfold QO;split
 ·exact z7 _
 ·split
  ·exact z7 _
  ·split
   ·split
    ·rename_i h3;exact h3.1
    ·exact z7 _
   ·exact z7 _
theorem Jb(d:Option Dk)(hd:Xu d)(p:List UInt8)(hp:p.length<=100000):FnC Tryz.prog 13 [.d (Qg d),.d (.st p)] (QA6 (Qj (rdS d) p)):=by
 have hs:=XD p hp;have hst:=λn s=>QPA d hd n s;generalize hR:Qj (rdS d) p=R;unfold Qj at hR;have hN:(QO p).1.map stL=(QO p).1.map stL:=rfl;unfold QDF at hs;by_cases he:(QO p).2=0
 ·rw [if_pos he]at hR;rw[he]at hs;have hnb:=Zf p;generalize hns:(QO p).1=ns at hs hR hnb;have hnl:(ns.map stL).length=ns.length:=zb ..;refine QJ i13 ?_;(repeat' (conv=>whnf);first|refine cEk hs ?_|refine QA ?_|intro x hx hu|intro h|apply sS);conv=>whnf
  refine QT QB (lkI (rdS d) ns R) (λx=>⟨[(0,.d (Qg d)),(7,.d (.it .i64 0)),(8,.d (.it .i64 x.2)),(16,.d (.fs 1 (ns.map stL))),(17,.d (.it .i64 (ns.length:Nat))),(18,.d (.it .i64 (x.1:Nat)))],[],0⟩) (λx=>ns.length-x.1) (0,0) ⟨z7 _,by rw[vl];exact hR⟩ ⟨ai rfl (ai rfl (ai rfl (ai rfl (ai (QK (by rw[hnl])) rr)))),trivial,rfl⟩ ?_;intro x hx;have x1:=hx.1;have x2:=hx.2;by_cases hk:x.1<ns.length
  ·have hsx:=hst x.2 ns[x.1];have hget:ns[x.1]? =some ns[x.1]:=zj hk;rw[vj hk,lkp]at x2;unfold QA6 at hsx;by_cases hz:(QAF (rdS d) x.2 ns[x.1]).2=0
   ·rw [if_pos hz]at x2;rw[hz]at hsx;(repeat' (conv=>whnf);first|refine cEk hsx ?_|with_reducible refine Qk hget ?_|refine QA ?_|intro x hx hu|intro h|apply sS);refine again (x.1+1,(QAF (rdS d) x.2 ns[x.1]).1) ⟨hk,x2⟩ (by dsimp only;omega) (ai rfl (ai rfl (ai rfl (ai rfl (ai rfl (ai (QK (by dsimp only;omega)) trivial)))))) trivial rfl
   ·rw [if_neg hz]at x2;(repeat' (conv=>whnf);first|refine cEk hsx ?_|with_reducible refine Qk hget ?_|refine QA ?_|intro x hx hu|intro h|apply sS);all_goals first|(exact congrArg QA6 x2)|(exfalso;exact hz (by assumption))
  ·have hd0:ns.drop x.1=[]:=vh om;rw[hd0,lkp]at x2;(repeat' (conv=>whnf);first|refine QA ?_|intro x hx hu|intro h|apply sS);exact congrArg QA6 x2
 ·rw [if_neg he]at hR;rw[QI8 he]at hs;refine QJ i13 ?_;(repeat' (conv=>whnf);first|refine cEk hs ?_|with_reducible refine Q7.unroll QB 1 ?_|refine QA ?_|intro x hx hu|intro h|apply sS);exact congrArg QA6 hR
theorem QHV(n:Int)(l:List Wr)(x:Wr):YW n (l++[x])=if x.a=n then some x.s else YW n l:=by
 unfold YW;rw[List.reverse_append];simp only[List.reverse_cons,List.reverse_nil,xf,jf,Wy];by_cases h:x.a=n
 ·simp [h]
 ·simp [h]
theorem QMr(hm:XL m):∀ {ws:List Wr},QVB ws->XL (QY m ws):=by
 intro ws;induction ws generalizing m with
 |nil=>intro _;exact hm
 |cons x t ih=>
  intro hw;refine ih (m:=QBF m x) (λs hs=>?_) (λw hw'=>hw w (zk _ hw'));unfold QBF at hs;split at hs
  ·rcases uv hs with hs|rfl
   ·exact hm s hs
   ·exact hw x zo
  ·exact hm s hs
theorem Xk(h:∀n:Int,0<=n->f n=g n)(n:Int):Qu f n=Qu g n:=by
 unfold Qu;split
 ·rw [h _ om]
 ·rfl
theorem Yu(h:∀n:Int,0<=n->f n=g n)(n:Int):QG f n=QG g n:=by
 unfold QG;split
 ·rw [h _ om]
 ·rfl
def wrD(d:Dk)(w:Wr):Dk:=⟨d.nx+1,d.safe,d.wait++[{w with e:=d.ep}],d.log++[QMo {w with e:=d.ep}],d.ep⟩
def w0:Wr:=⟨0,Qs,0,0,0⟩
def QMs(m:List (List D×D))(n:Int):List (List D×D):=J8 m [.it .i64 n] (.it .i64 1)
def QAG(l:List Int):List (List D×D):=l.foldl QMs []
def gt0(m:List (List D×D))(n:Int):D:=match ZU m [.it .i64 n]with|some v=>v|none=> .it .i64 0
theorem QHW(a b:Int):Xg [.it .i64 a] [.it .i64 b]=decide (a=b):=by
 show((a==b)&&true)=_;rw[wh];rfl
theorem QHX:∀(m:List (List D×D)) (hm:∀p∈m,∃a,p.1=[D.it .i64 a]) (x n:Int),gt0 (QMs m x) n=if n=x then .it .i64 1 else gt0 m n
 |[],_,x,n=>by
  unfold gt0 QMs;simp only[J8,ZU,QHW];by_cases h:n=x
  ·rw [if_pos h,decide_eq_true h.symm];rfl
  ·rw [if_neg h,decide_eq_false (λe=>h e.symm)];rfl
 |(k,u)::t,hm,x,n=>by
  obtain⟨a,rfl⟩:=hm _ zo;have ih:=QHX t (λp hp=>hm p (zk _ hp)) x n;unfold gt0 QMs at ih⊢;simp only[J8,ZU,QHW];by_cases ha:a=x
  ·subst ha;rw[decide_eq_true rfl,cond_true];simp only[ZU,QHW];by_cases h:n=a
   ·rw [if_pos h,decide_eq_true h.symm];rfl
   ·rw [if_neg h,decide_eq_false (λe=>h e.symm)];rfl
  ·rw [decide_eq_false ha,cond_false];simp only[ZU,QHW];by_cases han:a=n
   ·rw [decide_eq_true han,cond_true,cond_true,if_neg (λe=>ha om)]
   ·rw [decide_eq_false han,cond_false,cond_false];exact ih
theorem QCS:∀(m:List (List D×D)) (hm:∀p∈m,∃a,p.1=[D.it .i64 a]) (x:Int) (v:D),∀p∈J8 m [.it .i64 x] v,∃a,p.1=[D.it .i64 a]
 |[],_,x,v,p,hp=>by
  rw[yr.1 hp];exact⟨x,rfl⟩
 |(k,u)::t,hm,x,v,p,hp=>by
  simp only[J8]at hp;cases hq:Xg k [.it .i64 x]with
  |true=>
   rw[hq,cond_true]at hp;rcases zi.1 hp with rfl|hp
   ·exact ⟨x,rfl⟩
   ·exact hm p (zk _ hp)
  |false=>
   rw[hq,cond_false]at hp;rcases zi.1 hp with rfl|hp
   ·exact hm _ zo
   ·exact QCS t (λp hp=>hm p (zk _ hp)) x v p hp
theorem QFM(l:List Int)(x:Int):QAG (l++[x])=QMs (QAG l) x:=by unfold QAG;rw[vz];rfl
theorem QPB(l:List Int):(∀p∈QAG l,∃a,p.1=[D.it .i64 a])/\∀n,gt0 (QAG l) n= .it .i64 (if n∈l then 1 else 0):=by
 have key:∀k,k<=l.length->(∀p∈QAG (l.take k),∃a,p.1=[D.it .i64 a])/\∀n,gt0 (QAG (l.take k)) n= .it .i64 (if n∈l.take k then 1 else 0):=by
  intro k;induction k with
  |zero=>intro _;refine⟨λp hp=>?_,λn=>rfl⟩;cases hp
  |succ k ih=>
   intro hk;obtain⟨h1,h2⟩:=ih om;obtain⟨x,hx⟩:=Qo (show k<l.length by omega);rw[QW hx,QFM];refine⟨λp hp=>QCS _ h1 x _ p hp,λn=>?_⟩;rw[QHX _ h1,h2];by_cases h:n=x
   ·rw [if_pos h,if_pos (by simp[h])]
   ·rw [if_neg h];by_cases hn:n∈l.take k
    ·rw [if_pos hn,if_pos (vu _ hn)]
    ·rw [if_neg hn,if_neg (λhm=>by
      rcases yd.1 hm with hm|hm
      ·exact hn hm
      ·exact h (yr.1 hm))]
 have:=key l.length (zt _)
 rwa [x7]at this
def bd(l:List Int)(n:Int):Int:=if n∈l then 1 else 0
theorem QAd(l:List Int)(n:Int):(match ZU (QAG l) [.it .i64 n]with|some v=>v|none=> .it .i64 0)=D.it .i64 (bd l n):=(QPB l).2 n
def tk(d:Dk):Dk:=⟨d.nx+1,d.safe,d.wait,d.log,d.ep⟩
inductive Stp where
 |wr(w:Wr)
 |bar
def evB:List D:=[.it .i64 3]++QR w0++[.fs 2 []]
def YX(d:Dk):Dk:=⟨d.nx+1,d.safe,d.wait,d.log++[evB],d.ep+1⟩
def Q4(bad:List Int):Dk->List Stp->Dk×Int
 |d,[]=>(d,0)
 |d,.wr w::t=>if d.nx∈bad then(tk d,3)else Q4 bad (wrD d w) t
 |d,.bar::t=>if d.nx∈bad then(tk d,3)else Q4 bad (YX d) t
def Z4(b:Bool)(bad:List Int)(d:Dk):List (Nat×Ob):=[(0,.cells 6 [.mp 3,.d (.it .i64 d.nx),.vx 32 4 0 d.safe.length,.ts 36 (d.wait.map QR) 1,.ts 38 d.log 2,.d (.it .i64 d.ep)]),(1,.tail 49 true),(2,.tail 110 true),(3,.mp b false [.it .i64 0] (QAG bad)),(4,.vec 37 32 (d.safe.map QF) false)]
theorem QHY{r u l:Nat}{a b c e:List (List D)}{x y p':Int}(h3:x=y)(h1:a=b)(h2:c=e)(h4:p=p'):Ob.cells 6 [.mp u,.d (.it .i64 x),.vx 32 n 0 l,.ts 36 a q,.ts 38 c r,.d (.it .i64 p)]=Ob.cells 6 [.mp u,.d (.it .i64 y),.vx 32 n 0 l,.ts 36 b q,.ts 38 e r,.d (.it .i64 p')]:=by rw[h1,h2,h3,h4]
structure DB(d:Dk)(N:Nat):Prop where
 nx:0<=d.nx/\d.nx<=N
 w:d.wait.length<=N
 l:d.log.length<=N
 s:d.safe.length<=65
 s0:d.safe.length≠0
theorem QRM(b:Bool)(bad:List Int)(d:Dk)(a:Int)(s:List UInt8)(hs:s.length=32)(k i:Int)(hb:DB d 1000000)(ha:0<=a/\a<d.safe.length):
  FnH Tryz.prog 148 [.ptr 0 0,.d (.it .i64 a),.dg 32 (QF s),.dg 2 [.it .i64 k,.it .i64 i]] (Z4 b bad d) 5 [0] (.d (.it .i64 (if d.nx∈bad then 3 else 0))) (Z4 b bad (if d.nx∈bad then tk d else wrD d ⟨a,s,k,i,0⟩)) 5:=by
 obtain⟨hn,hw,hlg,hsl,hs0⟩:=hb;obtain⟨g,rfl⟩:=ZO hs;have hl1:(d.safe.map QF).length=d.safe.length:=zb ..;have hl2:(d.wait.map QR).length=d.wait.length:=zb ..;by_cases hbad:d.nx∈bad;all_goals first|rw[if_pos hbad,if_pos hbad]|rw[if_neg hbad,if_neg hbad]
 ·have hb1:bd bad d.nx=1:=if_pos hbad;refine QL QSr λT=>?_;(repeat' (conv=>whnf);first|with_reducible refine AtA.mk' ?_|refine OpX.lookup (kx:= .it .i64 d.nx) rfl rfl Tryz.underlying89 Tryz.underlying3 rfl (λw=>Tryz.zeroValue3 w) (λF=> .it _ _) rfl rfl rfl rfl (QAd bad d.nx) ?_|refine cI i57 ?_|refine cI i51 ?_|refine cI QLU ?_|refine cI QMI ?_|refine gD ?_|refine gOI ?_|intro x hx hu|intro h|apply sS);all_goals try omega
  refine Qd rfl (ai (QHY rfl rfl rfl rfl) rr) rr
 ·have hb1:bd bad d.nx=0:=if_neg hbad;refine QL QSr λT=>?_;(repeat' (conv=>whnf);first|with_reducible refine AtA.mk' ?_|refine OpX.lookup (kx:= .it .i64 d.nx) rfl rfl Tryz.underlying89 Tryz.underlying3 rfl (λw=>Tryz.zeroValue3 w) (λF=> .it _ _) rfl rfl rfl rfl (QAd bad d.nx) ?_|refine cI i57 ?_|refine cI i51 ?_|refine cI QLU ?_|refine cI QMI ?_|refine gD ?_|refine gOI ?_|intro x hx hu|intro h|apply sS);all_goals try omega
  refine Qd rfl (ai (QHY rfl ?_ rfl rfl) rr) rr;show _=(d.wait++[_]).map QR;rw[ye];rfl
theorem QKK(b:Bool)(bad:List Int)(d:Dk)(hb:DB d 1000000)(he:d.ep<=1000000/\ -1000000<=d.ep):
  FnH Tryz.prog 62 [.ptr 0 0] (Z4 b bad d) 5 [0] (.d (.it .i64 (if d.nx∈bad then 3 else 0))) (Z4 b bad (if d.nx∈bad then tk d else YX d)) 5:=by
 obtain⟨hn,hw,hlg,hsl,hs0⟩:=hb;have hl1:(d.safe.map QF).length=d.safe.length:=zb ..;by_cases hbad:d.nx∈bad;all_goals first|rw[if_pos hbad,if_pos hbad]|rw[if_neg hbad,if_neg hbad]
 ·have hb1:bd bad d.nx=1:=if_pos hbad;refine QL i62 λT=>?_;(repeat' (conv=>whnf);first|with_reducible refine AtA.mk' ?_|refine OpX.lookup (kx:= .it .i64 d.nx) rfl rfl Tryz.underlying89 Tryz.underlying3 rfl (λw=>Tryz.zeroValue3 w) (λF=> .it _ _) rfl rfl rfl rfl (QAd bad d.nx) ?_|refine cI i57 ?_|refine cI QLU ?_|refine cI QMI ?_|refine gD ?_|refine gOI ?_|intro x hx hu|intro h|apply sS);all_goals try omega
  refine Qd rfl (ai (QHY rfl rfl rfl rfl) rr) rr
 ·have hb1:bd bad d.nx=0:=if_neg hbad;refine QL i62 λT=>?_;(repeat' (conv=>whnf);first|with_reducible refine AtA.mk' ?_|refine OpX.lookup (kx:= .it .i64 d.nx) rfl rfl Tryz.underlying89 Tryz.underlying3 rfl (λw=>Tryz.zeroValue3 w) (λF=> .it _ _) rfl rfl rfl rfl (QAd bad d.nx) ?_|refine cI i57 ?_|refine cI QLU ?_|refine cI QMI ?_|refine gD ?_|refine gOI ?_|intro x hx hu|intro h|apply sS);all_goals try omega
  refine Qd rfl (ai (QHY rfl rfl rfl rfl) rr) rr
theorem XE:∀a b:List UInt8,Op.bytesLess a b=true↔a<b
 |[],[]=>by simp[Op.bytesLess]
 |[],_::_=>by simp[Op.bytesLess]
 |_::_,[]=>by simp[Op.bytesLess]
 |a::s,b::t=>by
  rw[List.cons_lt_cons_iff,<-XE s t];simp[Op.bytesLess]
theorem QDU(a b:List UInt8):a<=b↔Op.bytesLess b a=false:=by
 rw[<-Bool.not_eq_true,XE];exact Iff.rfl
theorem QTO{a b:List UInt8}(h:a<=b)(k:b<=c):a<=c:=by
 rw[QDU]at h k⊢;cases hc:Op.bytesLess c a with
 |false=>rfl
 |true=>
  cases hb:Op.bytesLess c b with
  |true=>rw[hb]at k;cases k
  |false=>
   have:=QBc c b hb;cases hb':Op.bytesLess b c with
   |false=>rw[this hb']at hc;rw[hc]at h;cases h
   |true=>rw[Ys b c a hb' hc]at h;cases h
theorem QCw{a b:List UInt8}(h:a<=b)(k:a≠b):a<b:=by
 rw[<-XE];rw[QDU]at h;cases hc:Op.bytesLess a b with
 |true=>rfl
 |false=>exact absurd (QBc a b hc h) k
theorem QHZ{a b:List UInt8}(h:a<=b)(k:b<c):a<c:=by
 by_cases e:a=b
 ·rw [e];exact k
 ·have:=QCw h e;rw[<-XE]at this k⊢;exact Ys a b c this k
theorem JJ(a:List UInt8):¬a<a:=by rw[<-XE,QBb];simp
theorem QGE(l:List (List UInt8)):(JI l).Pairwise (· <= ·):=by
 have:=Wq (le:=λx y:List UInt8=>decide (x<=y)) (λa b c h k=>by simp only[decide_eq_true_eq]at h k⊢;exact QTO h k)
  (λa b=>by
   simp only[wj,decide_eq_true_eq,QDU];cases h:Op.bytesLess b a with
   |false=>exact .inl rfl
   |true=>exact .inr (QDm b a h)) l
 exact this.imp λh=>by simpa using h
theorem QD0{l:List (List UInt8)}(h:l.Pairwise (· <= ·)):(Lib.compact l).Pairwise (· < ·):=by
 have hg:∀i j (hi:i<l.length) (hj:j<l.length),i<=j->l[i]<=l[j]:=λi j hi hj hij=>by
  rcases Nat.lt_or_eq_of_le hij with h1|rfl
  ·exact ut.1 h i j hi hj h1
  ·rw [QDU];exact QBb _
 have hb:∀i (hi:i<l.length),(l.toArray)[i]! =l[i]:=λi hi=>by
  rw[getElem!_pos l.toArray i (by simpa using hi)];simp
 unfold Lib.compact Lib.compactUpTo;rw[List.pairwise_map,List.pairwise_filter];refine List.pairwise_lt_range.imp_of_mem fun{i j} hi hj hij _ hk=>?_;rw[xd]at hi hj;unfold Lib.keeps at hk;have hk:=of_decide_eq_true hk;rcases hk with hk|hk
 ·omega
 ·rw [hb j hj,hb (j-1) om]at hk;rw[hb i hi,hb j hj];exact QHZ (hg i (j-1) hi om om) (QCw (hg (j-1) j om hj om) λe=>hk e.symm)
theorem QAH{l:List (List UInt8)}(x:List UInt8):x∈Lib.compact l↔x∈l:=by
 have hb:∀i (hi:i<l.length),(l.toArray)[i]! =l[i]:=λi hi=>by
  rw[getElem!_pos l.toArray i (by simpa using hi)];simp
 unfold Lib.compact Lib.compactUpTo;constructor
 ·intro h;obtain⟨i,hi,rfl⟩:=yf.1 h;have:=xd.1 (uc.1 hi).1;rw[hb i this];exact zm _
 ·intro h;have key:∀i (hi:i<l.length),l[i]∈((List.range l.length).filter (Lib.keeps l.toArray)).map (l.toArray[·]!):=by
   intro i;induction i with
   |zero=>
    intro hi;refine yf.2 ⟨0,uc.2 ⟨xd.2 hi,by simp[Lib.keeps]⟩,hb 0 hi⟩
   |succ i ih=>
    intro hi;by_cases e:l[i+1]=l[i]
    ·rw [e];exact ih om
    ·refine yf.2 ⟨i+1,uc.2 ⟨xd.2 hi,?_⟩,hb _ hi⟩;unfold Lib.keeps;refine decide_eq_true (.inr ?_);rw[hb _ hi,Nat.add_sub_cancel,hb i om];exact e
  obtain⟨i,hi,rfl⟩:=v6 h;exact key i hi
def QFN(last:List UInt8)(o:Option (List UInt8))(x:List UInt8):Option (List UInt8):=match o with
 |none=>if last<x then some x else none
 |some y=>if last<x/\x<y then some x else some y
def Jc(last:List UInt8)(L:List (List UInt8)):Option (List UInt8):=L.foldl (QFN last) none
theorem QMt(last:List UInt8):∀(L:List (List UInt8)),(Jc last L=none->∀x∈L,¬last<x)/\∀y,Jc last L=some y->y∈L/\last<y/\∀x∈L,last<x->¬x<y:=by
 suffices h:∀(n:Nat) (L:List (List UInt8)),L.length=n->(Jc last L=none->∀x∈L,¬last<x)/\∀y,Jc last L=some y->y∈L/\last<y/\∀x∈L,last<x->¬x<y from λL=>h _ L rfl
 intro n;induction n with
 |zero=>intro L hL;obtain rfl:=yx.1 hL;exact⟨λ_ x h=>(by cases h),λy h=>(by cases h)⟩
 |succ n ih=>
  intro L hL;have hne:L≠[]:=by rintro rfl;cases hL
  have e:L=L.dropLast++[L.getLast hne]:=(qo hne).symm;generalize L.getLast hne=x at e;have hl:L.dropLast.length=n:=by rw[Va];omega
  generalize L.dropLast=M at e hl;subst e;have h:=ih M hl;have hp:Jc last (M++[x])=QFN last (Jc last M) x:=by unfold Jc;rw[vz];rfl
  rw[hp];cases hm:Jc last M with
  |none=>
   have h1:=h.1 hm;unfold QFN;dsimp only;by_cases hx:last<x
   ·rw [if_pos hx];refine⟨λq=>(by cases q),λy q=>?_⟩;obtain rfl:=za q;refine⟨by simp,hx,λz hz hlz=>?_⟩;rcases yd.1 hz with hz|hz
    ·exact absurd hlz (h1 z hz)
    ·obtain rfl:=yr.1 hz;exact JJ _
   ·rw [if_neg hx];refine⟨λ_ z hz=>?_,λy q=>by cases q⟩;rcases yd.1 hz with hz|hz
    ·exact h1 z hz
    ·obtain rfl:=yr.1 hz;exact hx
  |some y=>
   obtain⟨h1,h2,h3⟩:=h.2 y hm;unfold QFN;dsimp only;by_cases hx:last<x/\x<y
   ·rw [if_pos hx];refine⟨λq=>(by cases q),λz q=>?_⟩;obtain rfl:=za q;refine⟨by simp,hx.1,λz hz hlz=>?_⟩;rcases yd.1 hz with hz|hz
    ·intro hzx;refine h3 z hz hlz ?_;rw[<-XE]at hzx⊢;exact Ys _ _ _ hzx ((XE _ _).2 hx.2)
    ·obtain rfl:=yr.1 hz;exact JJ _
   ·rw [if_neg hx];refine⟨λq=>(by cases q),λz q=>?_⟩;obtain rfl:=za q;refine⟨by simp[h1],h2,λz hz hlz=>?_⟩;rcases yd.1 hz with hz|hz
    ·exact h3 z hz hlz
    ·obtain rfl:=yr.1 hz;exact λq=>hx ⟨hlz,q⟩
def Zk(S:List (List UInt8))(i:Nat):List UInt8:=match i with
 |0=>[]
 |j+1=>S.getD j []
theorem QPC{S:List (List UInt8)}(hs:S.Pairwise (· < ·))(hm:∀x,x∈S↔x∈L)(hne:∀x∈L,x≠[])(i:Nat)(hi:i<=S.length):Jc (Zk S i) L=S[i]? :=by
 have hlt:∀a b (ha:a<S.length) (hb:b<S.length),a<b->S[a]<S[b]:=λa b ha hb h=>ut.1 hs a b ha hb h;have hup:∀j (hj:j<S.length),i<=j->Zk S i<S[j]:=by
  intro j hj hij;cases i with
  |zero=>
   show []<S[j];have:=hne S[j] ((hm _).1 (zm _));cases h:S[j]with
   |nil=>exact absurd h this
   |cons a t=>rw[<-XE];rfl
  |succ k=>
   show S.getD k []<S[j];rw[zr,zj om,kp];exact hlt k j om hj om
 have hdn:∀j (hj:j<S.length),j<i->¬Zk S i<S[j]:=by
  intro j hj hij;cases i with
  |zero=>omega
  |succ k=>
   show¬S.getD k []<S[j];rw[zr,zj om,kp];rcases Nat.lt_or_eq_of_le (Nat.le_of_lt_succ hij)with h|rfl
   ·intro q;have:=hlt j k hj om h;rw[<-XE]at q this;rw[QDm _ _ q]at this;cases this
   ·exact JJ _
 have h:=QMt (Zk S i) L;rcases yj i S.length with hil|hil
 ·rw [zj hil];have hup':=hup i hil (zt _);cases hp:Jc (Zk S i) L with
  |none=>exact absurd hup' (h.1 hp _ ((hm _).1 (zm _)))
  |some y=>
   obtain⟨h1,h2,h3⟩:=h.2 y hp;obtain⟨j,hj,rfl⟩:=v6 ((hm y).2 h1);have hij:¬j<i:=λq=>hdn j hj q h2;have hji:¬i<j:=λq=>h3 _ ((hm _).1 (zm _)) hup' (hlt i j hil hj q);have:i=j:=by omega
   subst this;rfl
 ·rw [wo hil];cases hp:Jc (Zk S i) L with
  |none=>rfl
  |some y=>
   obtain⟨h1,h2,_⟩:=h.2 y hp;obtain⟨j,hj,rfl⟩:=v6 ((hm y).2 h1);exact absurd h2 (hdn j hj om)
def QPD:List UInt8:=[2,0,0,0,0,0,0,0,0,0,0,0,0,0,0,0,0,0,0,0,0,0,0,0,0,0,0,0,0,0,0,0]
def Js:List (List UInt8):=QAE::QPD::List.replicate 63 Qs
def k1S:List UInt8:=[1,0,2,1,0,0,0,0,0,0,0,0,0,0,0,0,97,0,0,0,0,0,0,0,0,0,0,0,0,0,0,0]
def k2S:List UInt8:=[1,0,0,0,0,0,0,0,0,0,0,0,0,0,0,0,0,0,0,0,0,0,0,0,0,0,0,0,0,0,0,0]
def kW:List Wr:=[⟨17,k1S,0,0,0⟩,⟨3,k2S,0,0,0⟩]
theorem QMu:XL Js:=by
 intro s hs;simp only[Js,zi,jv]at hs;rcases hs with rfl|rfl|⟨_,rfl⟩<;>rfl
theorem QMv:FnC Tryz.prog 46 [] (.d (Q9 Js)):=by
 have hs:=QHS;refine QJ i46 ?_;(repeat' (conv=>whnf);first|refine cEk hs ?_|refine QA ?_|intro x hx hu|intro h|apply sS);refine⟨Js.map QF,⟨?_,?_,?_,?_⟩,?_⟩
 ·exact yg (by kernel_rfl)
 ·kernel_rfl
 ·intro x hx;obtain⟨s,hs,rfl⟩:=yf.1 hx;rw[Za];exact QMu s hs
 ·kernel_rfl
 ·rfl
def kD:Option Dk:=QTN Js kW
theorem f1:Qj (rdS kD) [47,97]=(2,0):=by decide+kernel
theorem f2:JA (rdS kD) 0 [97]=some 0:=by decide+kernel
theorem f3:Qj (rdS kD) [47,98]=(0,4):=by decide+kernel
theorem f4:QBk (Y9 kD):=by decide+kernel
theorem f5:Z6 (rdS kD) 0 24=[[97]]:=by decide+kernel
theorem f6:Xd (rdS kD) 2:=by decide+kernel
theorem f7:(Qu (rdS kD) 2).k=1:=by decide+kernel
theorem f8:(QG (rdS kD) 0).n=[97]:=by decide+kernel
theorem f9:(nms (rdS kD) 0).length=1:=by
 unfold nms;rw[f5];have h:JI [[97]]=[[97]]:=by simp[JI]
 rw[h];decide+kernel
def QMw(kd:Int->Int)(R:List Bool)(x:Ent):Prop:=x.u=true/\R.getD x.p.toNat false=true/\kd x.p=2/\kd x.t≠0/\R.getD x.t.toNat false=false/\x.t.toNat<R.length
instance(kd:Int->Int)(R:List Bool)(x:Ent):Decidable (QMw kd R x):=by unfold QMw;infer_instance
def J5(x:Ino):List Int:=[x.b0,x.b1,x.b2,x.b3]
structure XOK(I:List Ino)(E:List Ent)(R:List Bool):Prop where
 i:I.length=16
 e:E.length=24
 r:R.length=16
 p:∀x∈E,x.u=true->0<=x.p/\x.p<16/\1<=x.t/\x.t<16
section
variable {d:Option Dk} {I:List Ino} {E:List Ent} {R:List Bool}
end
def QTP(I:List Ino)(R:List Bool)(x:Ent):Prop:=x.u=true/\R.getD x.p.toNat false=true/\(I.getD x.p.toNat QGC).k=2
instance(I:List Ino)(R:List Bool)(x:Ent):Decidable (QTP I R x):=by unfold QTP;infer_instance
section
variable {d:Option Dk} {I:List Ino} {E:List Ent} {R:List Bool}
end
theorem QHa(f:Int->List UInt8)(k:Int):RE (QG f k):=by
 unfold QG;split
 ·unfold Ja;split
  ·rename_i h;exact h.1
  ·exact .inl ⟨rfl,rfl,rfl,rfl⟩
 ·exact .inl ⟨rfl,rfl,rfl,rfl⟩
def F16:List Bool:=List.replicate 16 false
def QTQ(d:Option Dk)(k:Int):Prop:=QHO d (17+k)/\QAC (rdS d (17+k))=false
instance(d:Option Dk)(k:Int):Decidable (QTQ d k):=by unfold QTQ;infer_instance
theorem QD1(f:Int->List UInt8)(n:Int):RI (Qu f n):=by
 unfold Qu;split
 ·unfold QCu;split
  ·rename_i h;exact h.1
  ·exact .inl ⟨.inl rfl,rfl,rfl,rfl,rfl,rfl⟩
 ·exact .inl ⟨.inl rfl,rfl,rfl,rfl,rfl,rfl⟩
theorem QMx(f:Int->List UInt8)(n:Int):∀s∈nms f n,Zt s=true:=by
 intro s hs;unfold nms at hs;rw[QAH]at hs;have hs:=(qs).1 hs;unfold Z6 at hs;obtain⟨k,hk,rfl⟩:=yf.1 hs;have:=of_decide_eq_true (uc.1 hk).2;have hu:=this.1;rcases QHa f (k:Nat)with h|h
 ·rw [h.1]at hu;cases hu
 ·exact h.2.2.2.2.2
theorem QPE(f:Int->List UInt8)(n:Int):(nms f n).length<=24:=by
 unfold nms;have h1:=Lib.compact_length_le (JI (Z6 f n 24));have h2:=QDz f n 24;rw[QCR]at h1;omega
def ZR(x:Ino):Nat->Int
 |0=>x.b0
 |1=>x.b1
 |2=>x.b2
 |_=>x.b3
theorem QI9{α β:Type}{e:α->β}{l:List α}{n:Int}{x:α}{K:β->Prop}(hx:l[n.toNat]? =some x)(h:K (e x))(h0:0<=n/\n<l.length:=by omega):(0<=n/\n<(l.map e).length)/\∀c,(l.map e)[n.toNat]? =some c->K c:=⟨by rw[zb];exact h0,λc hc=>by
 rw[yv,hx]at hc;obtain rfl:=za hc;exact h⟩
def JK:Stp->List D
 | .wr w=>QR w++[.bl false]
 | .bar=>QR w0++[.bl true]
def QEu(l:List Stp):List (Nat×Ob):=[(0,.cells 1 [.ts 37 (l.map JK) 1]),(1,.tail 243 true)]
theorem QQp{a b:List (List D)}(h:a=b):Ob.cells 1 [.ts n a q]=Ob.cells 1 [.ts n b q]:=by rw[h]
def Z7(x:Ino):List UInt8:=if RI x then QDG x else Qs
def Qh(x:Ent):List UInt8:=if RE x then Xt x else Qs
variable {x y:Ino}
theorem QRN(h:RI x):QMg (J4 x)=QF (QDG x):=QGB λn hn=>by
 unfold J4 at hn;simp only[zi,xq,or_false]at hn;rcases h with h|h
 ·omega
 ·omega
theorem QMy(x:Ino):QEs x= .tup [.dg 32 (QF (Z7 x)),.d (.bl (decide (RI x)))]:=by
 unfold QEs Z7;by_cases h:RI x
 ·rw [if_pos h,if_pos h,decide_eq_true h,QRN h]
 ·rw [if_neg h,if_neg h,decide_eq_false h]
theorem QMz(x:Ent):QDt x= .tup [.dg 32 (QF (Qh x)),.d (.bl (decide (RE x)))]:=by
 unfold QDt Qh;by_cases h:RE x
 ·rw [if_pos h,if_pos h,decide_eq_true h]
 ·rw [if_neg h,if_neg h,decide_eq_false h]
theorem Xl(x:Ino):(Z7 x).length=32:=by
 unfold Z7;split
 ·rfl
 ·rfl
theorem ZX(x:Ent):(Qh x).length=32:=by
 unfold Qh;split
 ·rename_i h;unfold Xt;split
  ·rename_i hu;have hn:Zt x.n=true:=by
    rcases h with h|h
    ·rw [h.1]at hu;cases hu
    ·exact h.2.2.2.2.2
   have:x.n.length<=8:=by
    unfold Zt at hn;simp at hn;omega
   simp;omega
  ·rfl
 ·rfl
theorem QGF(l:List Stp)(hl:l.length<=100000)(a:Int)(s:List UInt8)(hs:s.length=32)(k i:Int):
  FnH Tryz.prog 177 [.ptr 0 0,.d (.it .i64 a),.dg 32 (QF s),.dg 2 [.it .i64 k,.it .i64 i]] (QEu l) 2 [0] (.tup []) (QEu (l++[.wr ⟨a,s,k,i,0⟩])) 2:=by
 obtain⟨g,rfl⟩:=ZO hs;have hl1:(l.map JK).length=l.length:=zb ..;refine QL QUg λT=>?_;(repeat' (conv=>whnf);first|with_reducible refine AtA.mk' ?_|refine gD ?_|refine gOI ?_|intro x hx hu|intro h|apply sS);conv=>whnf
 refine⟨_,⟨λκ g a w hst=>⟨g,hst⟩⟩,rfl,ai (QQp ?_) rr,ai rfl rr⟩;show _=(l++[_]).map JK;rw[ye];rfl
theorem QKL(l:List Stp)(hl:l.length<=100000):
  FnH Tryz.prog 184 [.ptr 0 0] (QEu l) 2 [0] (.tup []) (QEu (l++[.bar])) 2:=by
 have hl1:(l.map JK).length=l.length:=zb ..;refine QL QUj λT=>?_;(repeat' (conv=>whnf);first|with_reducible refine AtA.mk' ?_|refine gD ?_|refine gOI ?_|intro x hx hu|intro h|apply sS);conv=>whnf
 refine⟨_,⟨λκ g a w hst=>⟨g,hst⟩⟩,rfl,ai (QQp ?_) rr,ai rfl rr⟩;show _=(l++[_]).map JK;rw[ye];rfl
theorem QGG(l:List Stp)(hl:l.length<=100000)(n:Int)(hn: -1000<=n/\n<=1000)(x:Ino)(k i:Int):
  FnH Tryz.prog 142 [.ptr 0 0,.d (.it .i64 n),.dg 6 (Zn x),.dg 2 [.it .i64 k,.it .i64 i]] (QEu l) 2 [0] (.tup []) (QEu (l++[.wr ⟨1+n,Z7 x,k,i,0⟩])) 2:=by
 have h1:=QMh x;rw[QMy]at h1;have h2:=QGF l hl (1+n) (Z7 x) (Xl x) k i;obtain⟨g,hg⟩:=ZO (Xl x);rw[hg]at h1 h2⊢;refine QL QUV λT=>?_;(repeat' (conv=>whnf);first|refine cEk h1 ?_|refine CallI.h h2 [0,1] ?_|refine gOI ?_|intro x hx hu|intro h|apply sS);conv=>whnf
 exact⟨_,⟨λκ g a w hst=>⟨g,hst⟩⟩,rfl,ai rfl rr,ai rfl rr⟩
theorem QAe(l:List Stp)(hl:l.length<=100000)(n:Int)(hn: -1000<=n/\n<=1000)(x:Ent)(i:Int):
  FnH Tryz.prog 129 [.ptr 0 0,.d (.it .i64 n),.dg 4 (Xi x),.d (.it .i64 i)] (QEu l) 2 [0] (.tup []) (QEu (l++[.wr ⟨17+n,Qh x,3,i,0⟩])) 2:=by
 have h1:=QMc x;rw[QMz]at h1;have h2:=QGF l hl (17+n) (Qh x) (ZX x) 3 i;obtain⟨g,hg⟩:=ZO (ZX x);rw[hg]at h1 h2⊢;refine QL QUO λT=>?_;(repeat' (conv=>whnf);first|refine cEk h1 ?_|refine CallI.h h2 [0,1] ?_|refine gOI ?_|intro x hx hu|intro h|apply sS);conv=>whnf
 exact⟨_,⟨λκ g a w hst=>⟨g,hst⟩⟩,rfl,ai rfl rr,ai rfl rr⟩
theorem QPF(l:List Stp)(hl:l.length<=100000)(n:Int)(hn: -1000<=n/\n<=1000)(s:List UInt8)(hs:s.length=32)(i:Int):
  FnH Tryz.prog 160 [.ptr 0 0,.d (.it .i64 n),.dg 32 (QF s),.d (.it .i64 i)] (QEu l) 2 [0] (.tup []) (QEu (l++[.wr ⟨40+n,s,1,i,0⟩])) 2:=by
 have h2:=QGF l hl (41+n-1) s hs 1 i;rw[show(⟨41+n-1,s,1,i,0⟩:Wr)=⟨40+n,s,1,i,0⟩ by rw[show(41:Int)+n-1=40+n by omega]]at h2;obtain⟨g,rfl⟩:=ZO hs;refine QL QUY λT=>?_;(repeat' (conv=>whnf);first|refine CallI.h h2 [0,1] ?_|refine gOI ?_|intro x hx hu|intro h|apply sS);conv=>whnf
 exact⟨_,⟨λκ g a w hst=>⟨g,hst⟩⟩,rfl,ai rfl rr,ai rfl rr⟩
def Zq(p:List UInt8):List UInt8×List UInt8×Int:=
 if(QO p).2≠0 then([],[],(QO p).2)else if(QO p).1=[]then([],[],1)else(XI (QO p).1.dropLast,(QO p).1.getLastD [],0)
theorem QGH(p:List UInt8):QLc p=QBE (Zq p).1 (Zq p).2.1 (Zq p).2.2:=by
 unfold QLc Zq;split
 ·rfl
 ·split<;>rfl
structure Plc where
 fo:Int
 nm:List UInt8
 k:Int
def QM0:Option Nat->Int
 |none=> -1
 |some k=>(k:Nat)
def QLe(f:Int->List UInt8)(q:List UInt8×List UInt8×Int)(r:Int×Int):Plc×Int:=
 if q.2.2≠0 then(⟨0,[],0⟩,q.2.2)else if r.2≠0 then(⟨0,[],0⟩,r.2)else if(Qu f r.1).k≠2 then(⟨0,[],0⟩,6)else(⟨r.1,q.2.1,QM0 (JA f r.1 q.2.1)⟩,0)
def ZS(f:Int->List UInt8)(p:List UInt8):Plc×Int:=QLe f (Zq p) (Qj f (Zq p).1)
def Xv(f:Int->List UInt8)(p:List UInt8):Int×Ino×Int:=
 if(Qj f p).2≠0 then(0,QGC,(Qj f p).2)else if(Qu f (Qj f p).1).k≠1 then(0,QGC,6)else((Qj f p).1,Qu f (Qj f p).1,0)
def frI(f:Int->List UInt8):Option Nat:=(List.range 16).find? λn:Nat=>decide (¬Xd f (n:Nat))
def frE(f:Int->List UInt8):Option Nat:=(List.range 24).find? λk:Nat=>decide ((QG f (k:Nat)).u=false)
def QD2(f:Int->List UInt8)(b:Int):Bool:=(List.range 16).any λn:Nat=>decide (Xd f (n:Nat))&&decide (b∈J5 (Qu f (n:Nat)))
def frA(f:Int->List UInt8):List Int:=((List.range 24).filter λi:Nat=> !(QD2 f ((i+1:Nat):Int))).map λi:Nat=>((i+1:Nat):Int)
def frB(f:Int->List UInt8)(n:Nat):List Int:=(frA f).take n
abbrev Pln:=Int×List Stp
def mkQ(f:Int->List UInt8)(a:Plc×Int)(kind:Int):Pln:=
 if a.2≠0 then(a.2,[])else if 0<=a.1.k then(5,[])else
 match frI f,frE f with
 |some n,some k=>(0,[.wr ⟨1+(n:Nat),Z7 ⟨kind,0,0,0,0,0⟩,2,(n:Nat),0⟩,.wr ⟨17+(k:Nat),Qh ⟨true,a.1.fo,a.1.nm,(n:Nat)⟩,3,a.1.fo,0⟩])
 |_,_=>(2,[])
def mkP(f:Int->List UInt8)(p:List UInt8)(kind:Int):Pln:=mkQ f (ZS f p) kind
def nd(z:Int):Nat:=((z+31)/32).toNat
def QHb(x:Ino)(had:Nat)(fr:List Int)(i:Nat):Int:=if had<=i then fr.getD (i-had) (ZR x i)else ZR x i
def Xe(x:Ino)(z:Int)(had:Nat)(fr:List Int):Ino:=⟨x.k,z,QHb x had fr 0,QHb x had fr 1,QHb x had fr 2,QHb x had fr 3⟩
def QEv(base:List UInt8)(i:Nat)(off:Int)(b:List UInt8):List UInt8:=
 (List.range 32).map λj:Nat=>if off<=32*(i:Int)+(j:Int)/\32*(i:Int)+(j:Int)<off+(b.length:Int)then b.getD (32*(i:Int)+(j:Int)-off).toNat 0 else base.getD j 0
def QBG(off:Int)(len:Nat)(i:Nat):Bool:=decide (off<32*(i:Int)+32/\32*(i:Int)<off+(len:Int)/\0<len)
def QM1(f:Int->List UInt8)(n:Int)(x y:Ino)(had:Nat)(off:Int)(b:List UInt8)(i:Nat):Stp:= .wr ⟨40+ZR y i,QEv (if i<had then f (40+ZR x i)else Qs) i off b,1,n,0⟩
def XF(f:Int->List UInt8)(n:Int)(x y:Ino)(had:Nat)(off:Int)(b:List UInt8)(k:Nat):List Stp:=((List.range k).filter (QBG off b.length)).map (QM1 f n x y had off b)
def QDH(f:Int->List UInt8)(n:Int)(x:Ino)(off:Int)(b:List UInt8):Pln:=
 if off<0\/x.z<off then(1,[])else if 128-off<(b.length:Int)then(2,[])else
 if(frB f (nd (max x.z (off+b.length))-nd x.z)).length≠nd (max x.z (off+b.length))-nd x.z then(2,[])else
 (0,XF f n x (Xe x (max x.z (off+b.length)) (nd x.z) (frB f (nd (max x.z (off+b.length))-nd x.z))) (nd x.z) off b 4++
  if Xe x (max x.z (off+b.length)) (nd x.z) (frB f (nd (max x.z (off+b.length))-nd x.z))=x then []else
  [.wr ⟨1+n,Z7 (Xe x (max x.z (off+b.length)) (nd x.z) (frB f (nd (max x.z (off+b.length))-nd x.z))),2,n,0⟩])
def QEw(f:Int->List UInt8)(q:Int×Ino×Int)(off:Int)(b:List UInt8):Pln:=if q.2.2≠0 then(q.2.2,[])else QDH f q.1 q.2.1 off b
def QA0(f:Int->List UInt8)(p:List UInt8)(off:Int)(b:List UInt8):Pln:=QEw f (Xv f p) off b
def QBH(f:Int->List UInt8)(p:List UInt8)(b:List UInt8):Pln:=QEw f (Xv f p) (Xv f p).2.1.z b
def trI(x:Ino)(tq:Int):Ino:=⟨x.k,tq,if 0<nd tq then x.b0 else 0,if 1<nd tq then x.b1 else 0,if 2<nd tq then x.b2 else 0,if 3<nd tq then x.b3 else 0⟩
def QPG(q:Int×Ino×Int)(tq:Int):Pln:=
 if q.2.2≠0 then(q.2.2,[])else if tq<0\/q.2.1.z<tq then(1,[])else if tq=q.2.1.z then(0,[])else(0,[.wr ⟨1+q.1,Z7 (trI q.2.1 tq),2,q.1,0⟩])
def QBl(f:Int->List UInt8)(p:List UInt8)(tq:Int):Pln:=QPG (Xv f p) tq
def QDI(p q:List UInt8):Bool:=decide ((QO p).2=0/\(QO q).2=0/\(QO q).1.length<=(QO p).1.length/\(QO p).1.take (QO q).1.length=(QO q).1)
def QJA(frm tq:List UInt8):Bool:=QDI tq frm||decide ((QO frm).1.length<(QO tq).1.length)
def QHc(f:Int->List UInt8)(a b:Plc)(x:Ent):Pln:=
 if b.k<0/\a.fo=b.fo then(0,[.wr ⟨17+a.k,Qh x,3,b.fo,0⟩])else
 match (if b.k<0 then frE f else some b.k.toNat)with
 |none=>(2,[])
 |some k=>(0,[.wr ⟨17+(k:Nat),Qh x,3,b.fo,0⟩,.bar,.wr ⟨17+a.k,Qh ZD,3,a.fo,0⟩])
def QM2(f:Int->List UInt8)(frm tq:List UInt8)(a b:Plc×Int):Pln:=
 if(Zq frm).2.2≠0 then((Zq frm).2.2,[])else if(Zq tq).2.2≠0 then((Zq tq).2.2,[])else
 if a.2≠0 then(a.2,[])else if a.1.k<0 then(4,[])else if b.2≠0 then(b.2,[])else
 if frm=tq\/b.1.k=a.1.k then(0,[])else
 if(Qu f (QG f a.1.k).t).k=2/\QJA frm tq=true then(1,[])else
 if 0<=b.1.k/\((Qu f (QG f a.1.k).t).k=2\/(Qu f (QG f b.1.k).t).k=2)then(5,[])else
 QHc f a.1 b.1 ⟨(QG f a.1.k).u,b.1.fo,b.1.nm,(QG f a.1.k).t⟩
def QBm(f:Int->List UInt8)(frm tq:List UInt8):Pln:=QM2 f frm tq (ZS f frm) (ZS f tq)
def QM3(f:Int->List UInt8)(a:Plc×Int):Pln:=
 if a.2≠0 then(a.2,[])else if a.1.k<0 then(4,[])else
 if(Qu f (QG f a.1.k).t).k=2/\nms f (QG f a.1.k).t≠[]then(7,[])else(0,[.wr ⟨17+a.1.k,Qh ZD,3,a.1.fo,0⟩])
def QBn(f:Int->List UInt8)(p:List UInt8):Pln:=QM3 f (ZS f p)
def runP(bad:List Int)(d:Dk)(x:Pln):Dk×Int:=if x.1≠0 then(d,x.1)else Q4 bad d x.2
section
variable {f g:Int->List UInt8} (h:∀n:Int,0<=n->f n=g n)
include h
theorem QKM(n:Int):Xd f n=Xd g n:=by
 unfold Xd;simp only[Yu h]
theorem QKN(p:Int)(s:List UInt8):JA f p s=JA g p s:=by
 unfold JA;refine congrArg (λq=>List.find? q _) (funext λk=>?_);have e:QAz f p s k↔QAz g p s k:=by
  unfold QAz QEt;simp only[Yu h,Xk h]
 exact decide_eq_decide.2 e
theorem QM4:∀(l:List (List UInt8)) (n:Int),lkp f l n=lkp g l n
 |[],n=>rfl
 |s::t,n=>by
  unfold lkp;have e:QAF f n s=QAF g n s:=by unfold QAF;rw[QKN h,Xk h];simp only[Yu h]
  rw[e,QM4 t]
theorem QBo(p:List UInt8):Qj f p=Qj g p:=by unfold Qj;rw[QM4 h]
theorem QDV(p:List UInt8):ZS f p=ZS g p:=by
 unfold ZS QLe;rw[QBo h];simp only[Xk h,QKN h]
theorem QGI(p:List UInt8):Xv f p=Xv g p:=by
 unfold Xv;rw[QBo h,Xk h]
theorem QM5:frE f=frE g:=by
 unfold frE;simp only[Yu h]
theorem QRO:frI f=frI g:=by
 unfold frI;simp only[QKM h]
theorem QRP:frA f=frA g:=by
 unfold frA QD2;simp only[QKM h,Xk h]
theorem QM6(p:List UInt8)(kind:Int):mkP f p kind=mkP g p kind:=by
 unfold mkP mkQ;rw[QDV h,QRO h,QM5 h]
theorem QPH(p:List UInt8)(tq:Int):QBl f p tq=QBl g p tq:=by unfold QBl;rw[QGI h]
theorem QPI(p:Int):nms f p=nms g p:=by
 unfold nms Z6 QEt;simp only[Yu h,Xk h]
theorem QPJ(p:List UInt8):QBn f p=QBn g p:=by
 unfold QBn QM3;rw[QDV h];simp only[Yu h,Xk h,QPI h]
theorem QPK(p q:List UInt8):QBm f p q=QBm g p q:=by
 unfold QBm QM2 QHc;rw[QDV h,QDV h];simp only[Yu h,Xk h,QM5 h]
end
theorem QVC(hx:RI x)(i:Nat):0<=ZR x i:=by
 rcases hx with h|h
 ·unfold ZR;split<;>omega
 ·unfold ZR;split<;>omega
theorem QKO:RI QGC:= .inl ⟨.inl rfl,rfl,rfl,rfl,rfl,rfl⟩
theorem JL(f:Int->List UInt8)(p:List UInt8):RI (Xv f p).2.1:=by
 unfold Xv;split
 ·exact QKO
 ·split
  ·exact QKO
  ·exact QD1 f _
section
variable {f g:Int->List UInt8} (h:∀n:Int,0<=n->f n=g n)
include h
theorem QPL(hx:RI x)(n:Int)(y:Ino)(had:Nat)(off:Int)(b:List UInt8)(k:Nat):XF f n x y had off b k=XF g n x y had off b k:=by
 unfold XF;refine congrArg (λq=>List.map q _) (funext λi=>?_);unfold QM1;rw[h _ (by have:=QVC hx i;omega)]
theorem QKP(hx:RI x)(n:Int)(off:Int)(b:List UInt8):QDH f n x off b=QDH g n x off b:=by
 unfold QDH frB;rw[QRP h];simp only[QPL h hx]
theorem QPM(p:List UInt8)(off:Int)(b:List UInt8):QA0 f p off b=QA0 g p off b:=by
 unfold QA0 QEw;rw[<-QGI h,QKP h (JL f p)]
theorem QPN(p:List UInt8)(b:List UInt8):QBH f p b=QBH g p b:=by
 unfold QBH QEw;rw[<-QGI h,QKP h (JL f p)]
end
def QEx(s:List UInt8)(a:Nat)(c:List UInt8):List UInt8:=s.take a++c++s.drop (a+c.length)
theorem QM7(h:a+c.length<=s.length):(QEx s a c).length=s.length:=by
 unfold QEx;simp only[zu,zy,ym];omega
theorem QAI(base:List UInt8)(i:Nat)(off:Int)(b:List UInt8):(QEv base i off b).length=32:=by unfold QEv;rw[zb,xj]
def atK(off:Int)(len:Nat)(k:Nat):Int:=min (max off (32*(k:Int))) (off+(len:Int))
theorem QM8{base:List UInt8}(hb:base.length=32){b:List UInt8}(h0:0<=off)(hk:32*(k:Int)<=off\/off<=32*(k:Int))(hlt:atK off b.length k<off+b.length)(hu:off<32*(k:Int)+32):
  QEx base (atK off b.length k-32*(k:Int)).toNat ((b.drop (atK off b.length k-off).toNat).take (atK off b.length (k+1)-atK off b.length k).toNat)=QEv base k off b:=by
 have e1:atK off b.length k=max off (32*(k:Int)):=by unfold atK at hlt⊢;omega
 have e2:atK off b.length (k+1)=min (32*(k:Int)+32) (off+b.length):=by unfold atK;omega
 rw[e1,e2]at*
 have hl:((b.drop (max off (32*(k:Int))-off).toNat).take (min (32*(k:Int)+32) (off+b.length)-max off (32*(k:Int))).toNat).length=(min (32*(k:Int)+32) (off+b.length)-max off (32*(k:Int))).toNat:=by
  rw[zy,ym];omega
 unfold QEx;refine vg ?_ λj h1 h2=>?_
 ·rw [QAI,zu,zu,hl,zy,ym];omega
 ·rw [QAI]at h2;have hg:∀(h:j<(QEv base k off b).length),(QEv base k off b)[j]=if off<=32*(k:Int)+(j:Int)/\32*(k:Int)+(j:Int)<off+(b.length:Int)then b.getD (32*(k:Int)+(j:Int)-off).toNat 0 else base.getD j 0:=λh=>by
   simp only[QEv,z1,x5]
  rw[hg];by_cases c1:j<(max off (32*(k:Int))-32*(k:Int)).toNat
  ·rw [zx (by rw[zu,zy];omega),zx (by rw[zy];omega),if_neg om,xl,zr,zj om];rfl
  ·by_cases c2:j<(max off (32*(k:Int))-32*(k:Int)).toNat+(min (32*(k:Int)+32) (off+b.length)-max off (32*(k:Int))).toNat
   ·rw [zx (by rw[zu,zy,hl];omega),yb (by rw[zy];omega),if_pos om,xl,xm,zr,zj om,kp];congr 1;rw[zy];omega
   ·rw [yb (by rw[zu,zy,hl];omega),if_neg om,xm,zr,zj om,kp];congr 1;rw[zu,hl,zy];omega
theorem QFO(f:Int->List UInt8)(n:Int)(x y:Ino)(had:Nat)(off:Int)(b:List UInt8)(k:Nat):XF f n x y had off b (k+1)=XF f n x y had off b k++if QBG off b.length k=true then [QM1 f n x y had off b k]else []:=by
 unfold XF;rw[vp,vr,ye];congr 1;by_cases h:QBG off b.length k=true
 ·rw [if_pos h,Ws h];rfl
 ·rw [if_neg h,Wt h];rfl
theorem QLf{n:Int}{b:List UInt8}(h:∀i,i<k->QBG off b.length i=false):XF f n x y had off b k=[]:=by
 unfold XF;rw[List.filter_eq_nil_iff.2 λi hi=>by rw[h i (xd.1 hi)];simp];rfl
theorem QHd{n:Int}{b:List UInt8}(hk:∀i,k<=i->QBG off b.length i=false):∀j,XF f n x y had off b (k+j)=XF f n x y had off b k
 |0=>rfl
 |j+1=>by
  rw[<-wl,QFO,QHd hk j,hk (k+j) om];simp
def Qp(bad:List Int)(d:Dk):List (Nat×Ob):=[(0,.cells 6 [.d (.fs 32 (d.safe.map QF)),.d (.fs 36 (d.wait.map QR)),.d (.it .i64 d.ep),.d (.fs 38 d.log),.d (.fs 1 (vI bad)),.d (.it .i64 d.nx)])]
theorem QM9{a b c e s l:List (List D)}{x y:Int}(h3:x=y)(h1:a=b)(h2:c=e):Ob.cells 6 [.d (.fs 32 s),.d (.fs 36 a),.d (.it .i64 p),.d (.fs 38 c),.d (.fs 1 l),.d (.it .i64 x)]=Ob.cells 6 [.d (.fs 32 s),.d (.fs 36 b),.d (.it .i64 p),.d (.fs 38 e),.d (.fs 1 l),.d (.it .i64 y)]:=by rw[h1,h2,h3]
theorem QBp(l:List Int)(n:Int)(hl:l.length<=1000000):FnC Tryz.prog 170 [.d (.fs 1 (vI l)),.d (.it .i64 n)] (.d (.bl (decide (n∈l)))):=by
 have hv:(vI l).length=l.length:=zb ..;refine QJ QUe ?_;(repeat' (conv=>whnf);first|refine QA ?_|intro x hx hu|intro h|apply sS);conv=>whnf
 refine QT QB (λk:Nat=>k<=l.length/\n∉l.take k) (λk=>⟨[(0,.d (.fs 1 (vI l))),(1,.d (.it .i64 n)),(5,.d (.it .i64 (k:Nat)))],[],0⟩) (λk=>l.length-k) 0 ⟨z7 _,by simp⟩ ⟨ai rfl rr,trivial,rfl⟩ ?_;intro k ⟨hk,hn⟩;by_cases hkl:k<l.length
 ·obtain ⟨x,hx⟩:=Qo hkl;unfold vI at hv⊢;(repeat' (conv=>whnf);first|refine QA ?_|intro x hx hu|intro h|apply sS)
  ·exact QCt (by rw[show n=x by omega];exact ya hx)
  ·refine again (k+1) ⟨hkl,?_⟩ (by dsimp only;omega) (ai rfl (ai rfl (ai (QK om) trivial))) trivial rfl;rw[QW hx,yd,yr];rintro(h'|h')
   ·exact hn h'
   ·omega
 ·(repeat' (conv=>whnf);first|refine QA ?_|intro x hx hu|intro h|apply sS);refine Xw ?_;rw[show l=l.take k by rw[z8 om]];exact hn
theorem QLg(bad:List Int)(d:Dk)(a:Int)(s:List UInt8)(hs:s.length=32)(k i:Int)(hn:0<=d.nx/\d.nx<=1000000)(hb:bad.length<=1000000)(h:¬(0<=a/\a<d.safe.length)\/d.nx∈bad):
  FnH Tryz.prog 134 [.ptr 0 0,.d (.it .i64 a),.dg 32 (QF s),.dg 2 [.it .i64 k,.it .i64 i]] (Qp bad d) 1 [0] (.d (.it .i64 (if¬(0<=a/\a<d.safe.length)then 1 else 3))) (Qp bad (tk d)) 1:=by
 have hin:FnC Tryz.prog 170 [.d (.fs 1 (vI bad)),.d (.it .i64 (d.nx+1-1))] (.d (.bl (decide (d.nx∈bad)))):=by
  have:=QBp bad (d.nx+1-1) hb
  rwa [show decide (d.nx+1-1∈bad)=decide (d.nx∈bad) by rw[jw]]at this
 have hl1:(d.safe.map QF).length=d.safe.length:=zb ..;by_cases h1:¬(0<=a/\a<d.safe.length)
 ·rw [if_pos h1];obtain⟨g,rfl⟩:=ZO hs;refine QL QQ3 λT=>?_;(repeat' (conv=>whnf);first|refine cEk hin ?_|refine cI QIz ?_|refine gOI ?_|intro x hx hu|intro h|apply sS);all_goals try omega
  all_goals refine Qd rfl (ai (QM9 rfl rfl rfl) trivial) rr
 ·have hb1:=h.resolve_left h1;rw[if_neg h1];rw[decide_eq_true hb1]at hin;obtain⟨g,rfl⟩:=ZO hs;refine QL QQ3 λT=>?_;(repeat' (conv=>whnf);first|refine cEk hin ?_|refine cI QIz ?_|refine gOI ?_|intro x hx hu|intro h|apply sS);all_goals try omega
  all_goals refine Qd rfl (ai (QM9 rfl rfl rfl) trivial) rr
def InR(d:Dk):Prop:=∀w∈d.wait,0<=w.a/\w.a<d.safe.length
theorem QJB(n:Int):YW n []=none:=rfl
theorem QHe(m:List (List UInt8))(ws:List Wr)(x:Wr):QY m (ws++[x])=QBF (QY m ws) x:=by unfold QY;rw[vz];rfl
theorem QGJ(d:Dk)(n:Int)(h0:0<=n):rdS (some d) n=imS (QY d.safe d.wait) n:=by
 obtain⟨nx,safe,wait,log,ep⟩:=d;have key:∀l:List Wr,rdS (some ⟨nx,safe,l,log,ep⟩) n=imS (QY safe l) n:=by
  intro l;have hrec:∀k,∀l:List Wr,l.length=k->rdS (some ⟨nx,safe,l,log,ep⟩) n=imS (QY safe l) n:=by
   intro k;induction k with
   |zero=>
    intro l hl;have:l=[]:=yx.1 hl;subst this;unfold rdS imS;dsimp only;rw[QJB];show(if _ then safe.getD n.toNat Qs else Qs)=safe.getD n.toNat Qs;split
    ·rfl
    ·rename_i hc;rw[zr,wo om];rfl
   |succ k ih=>
    intro l hl;have hne:l≠[]:=λh=>by rw[h]at hl;simp at hl
    obtain⟨t,x,rfl⟩:∃t x,l=t++[x]:=⟨l.dropLast,l.getLast hne,(qo hne).symm⟩;have iht:=ih t (by simpa using hl);rw[QHe];have h2:=Z2 safe t;unfold rdS at iht⊢;dsimp only at iht⊢;rw[QHV];unfold QBF imS;by_cases hx:x.a=n
    ·subst hx;by_cases hr:0<=x.a/\x.a<safe.length
     ·rw [if_pos hr,if_pos rfl,if_pos (show 0<=x.a/\x.a<((QY safe t).length:Int) by rw[h2];exact hr)];show x.s=((QY safe t).set x.a.toNat x.s).getD x.a.toNat Qs;rw[zr,List.getElem?_set_self (by rw[h2];omega)];rfl
     ·rw [if_neg hr,if_neg (show¬(0<=x.a/\x.a<((QY safe t).length:Int)) by rw[h2];exact hr),zr,wo (by rw[h2];omega)];rfl
    ·rw [if_neg hx];unfold imS at iht;rw[iht];split
     ·rw [zr,zr,List.getElem?_set_ne om]
     ·rfl
  exact hrec l.length l rfl
 exact key wait
def nwH(bad:List Int)(T0:Nat)(d:Dk)(i:Nat):S:=⟨[(0,.ptr 0 0),(3,.vx 32 4 0 d.safe.length),(4,.d (.it .i64 (i:Nat)))],[(4,.vec 37 32 ((QY d.safe (d.wait.take i)).map QF) false),(0,.cells 6 [.d (.fs 32 (d.safe.map QF)),.d (.fs 36 (d.wait.map QR)),.d (.it .i64 d.ep),.d (.fs 38 d.log),.d (.fs 1 (vI bad)),.d (.it .i64 d.nx)]),(1,.frame 2 [(0,.ptr 0 0)]),(2,.tag 0 T0)],5⟩
theorem YI(bad:List Int)(d:Dk)(hd:Xu (some d))(hR:InR d):FnH Tryz.prog 42 [.ptr 0 0] (Qp bad d) 1 [0] (.d (Q9 (QY d.safe d.wait))) (Qp bad d) 1:=by
 have hml':(d.safe.map QF).length=d.safe.length:=zb ..;have hwl':(d.wait.map QR).length=d.wait.length:=zb ..;have hml:=hd.2.2.1;have hwl:=hd.2.2.2;refine QL i42 λT=>?_;(repeat' (conv=>whnf);first|refine JD.vec ⟨rfl,?_⟩|refine JD.ts ?_|refine QA ?_|intro x hx hu|intro h|apply sS);conv=>whnf
 refine QT QB (λi:Nat=>i<=d.wait.length) (nwH bad (T 0) d) (λi=>d.wait.length-i) 0 (z7 _) ⟨ai rfl (ai (QQo hml') rr),ai rfl rr,rfl⟩ ?_;intro i hi;have hpl:=Z2 d.safe (d.wait.take i);have hpl':((QY d.safe (d.wait.take i)).map QF).length=d.safe.length:=by rw[zb,hpl]
 rcases yj i d.wait.length with hil|hil
 ·obtain ⟨x,hx⟩:=Qo hil;have hxs:=hd.2.1 x (ya hx);have hxr:=hR x (ya hx);have hstep:=QI7 d.safe hx;obtain⟨xa,xs,xk,xi,xe⟩:=x;dsimp only at hxr;obtain⟨g,rfl⟩:=ZO hxs;(repeat' (conv=>whnf);first|with_reducible refine Qk hx ?_|refine QA ?_|intro x hx hu|intro h|apply sS);all_goals (refine again (i+1) om (by dsimp only;omega) (ai rfl (ai rfl (ai (QK om) trivial))) (ai (QRK ?_) rr) rfl)
  all_goals (rw[hstep];unfold QBF;rw[if_pos (by dsimp only at*;omega)];refine QO8 (s:=Qv g) (k:=xa.toNat) (y5 _) ?_;rw[hpl];dsimp only at*;omega)
 ·have hie:i=d.wait.length:=by omega
  have hlast:QY d.safe (d.wait.take i)=QY d.safe d.wait:=by rw[hie,x7]
  rw[hlast]at hpl';unfold nwH;rw[hlast];(repeat' (conv=>whnf);first|refine QA ?_|intro x hx hu|intro h|apply sS);refine⟨⟨[(2,.d (.fs 32 ((QY d.safe d.wait).map QF)))],[(0,.cells 6 [.d (.fs 32 (d.safe.map QF)),.d (.fs 36 (d.wait.map QR)),.d (.it .i64 d.ep),.d (.fs 38 d.log),.d (.fs 1 (vI bad)),.d (.it .i64 d.nx)]),(1,.frame 2 [(0,.ptr 0 0)]),(2,.tag 0 (T 0))],5⟩,
   Wk.frzL 4 37 32 ((QY d.safe d.wait).map QF) false wu (ai (Fz.vx 0 d.safe.length _ (by rw[hpl'];omega) (by rw[vl,z8 (by rw[hpl'];exact zt _)])) trivial) (ai rfl (ai (FzO.same _) (ai rfl (ai (FzO.same _) (ai rfl (ai (FzO.same _) trivial)))))) rfl,rfl,ai rfl trivial,ai rfl rr⟩
def Qa(b:Bool)(bad:List Int)(d:Dk):List (Nat×Ob):=Z4 b bad d++[(5,.cells 1 [.ptr 0 0])]
def QEy:Stp->Prop
 | .wr w=>w.s.length=32/\0<=w.a/\w.a<65
 | .bar=>True
structure Evt where
 k:Int
 w:Wr
 t:List (Int×Int)
def Qe(t:Int×Int):List D:=[.it .i64 t.1,.it .i64 t.2]
def YJ(e:Evt):List D:=[.it .i64 e.k]++QR e.w++[.fs 2 (e.t.map Qe)]
def QNA(l:List (List D)):Prop:=∃es:List Evt,l=es.map YJ/\∀e∈es,e.w.s.length=32/\e.t.length<=1000
theorem QNA.snoc{l:List (List D)}(h:QNA l)(e:Evt)(h1:e.w.s.length=32)(h2:e.t.length<=1000):QNA (l++[YJ e]):=by
 obtain⟨es,rfl,h3⟩:=h;refine⟨es++[e],by rw[ye];rfl,λx hx=>?_⟩;rcases yd.1 hx with hx|hx
 ·exact h3 x hx
 ·rw [yr.1 hx];exact⟨h1,h2⟩
structure Fd(bad:List Int)(d:Dk)(N:Nat):Prop where
 s:∀s∈d.safe,s.length=32
 w:∀w∈d.wait,w.s.length=32
 r:InR d
 b:DB d N
 n:d.safe.length=65
 bl:bad.length<=1000000
 ep: -(N:Int)<=d.ep/\d.ep<=N
 lg:QNA d.log
 hN:N<=90000
variable {bad:List Int}
theorem Fd.ok(h:Fd bad d N):Xu (some d):=⟨h.s,h.w,by rw[h.n];exact zt _,by have:=h.b.w;have:=h.hN;omega⟩
theorem DB.mono(h:DB d N)(hm:N<=M):DB d M:=⟨⟨h.nx.1,by have:=h.nx;omega⟩,xy h.w hm,xy h.l hm,h.s,h.s0⟩
theorem Fd.mono(h:Fd bad d N)(hm:N<=M)(hM:M<=90000):Fd bad d M:=⟨h.s,h.w,h.r,h.b.mono hm,h.n,h.bl,by have:=h.ep;omega,h.lg,hM⟩
theorem Fd.tk(h:Fd bad d N)(hM:N+1<=90000):Fd bad (tk d) (N+1):=
 ⟨h.s,h.w,h.r,⟨⟨by have:=h.b.nx;show 0<=d.nx+1;omega,by have:=h.b.nx;show d.nx+1<=_;omega⟩,Wb h.b.w,Wb h.b.l,h.b.s,h.b.s0⟩,h.n,h.bl,by have:=h.ep;show-((N+1:Nat):Int)<=d.ep/\d.ep<=((N+1:Nat):Int);omega,h.lg,hM⟩
theorem Fd.bar(h:Fd bad d N)(hM:N+1<=90000):Fd bad (YX d) (N+1):=
 ⟨h.s,h.w,h.r,⟨⟨by have:=h.b.nx;show 0<=d.nx+1;omega,by have:=h.b.nx;show d.nx+1<=_;omega⟩,Wb h.b.w,by show(d.log++[_]).length<=_;rw[zu];exact Wh h.b.l,h.b.s,h.b.s0⟩,h.n,h.bl,by have:=h.ep;show-((N+1:Nat):Int)<=d.ep+1/\d.ep+1<=((N+1:Nat):Int);omega,h.lg.snoc ⟨3,w0,[]⟩ rfl (z7 _),hM⟩
theorem Fd.wr(h:Fd bad d N)(hM:N+1<=90000)(w:Wr)(hw:QEy (.wr w)):Fd bad (wrD d w) (N+1):=
 ⟨h.s,(λx hx=>by
  rcases yd.1 hx with hx|hx
  ·exact h.w x hx
  ·rw [yr.1 hx];exact hw.1),(λx hx=>by
  rcases yd.1 hx with hx|hx
  ·exact h.r x hx
  ·rw [yr.1 hx];have h2:=hw.2;have:=h.n;show 0<=w.a/\w.a<(d.safe.length:Int);omega),
  ⟨⟨by have:=h.b.nx;show 0<=d.nx+1;omega,by have:=h.b.nx;show d.nx+1<=_;omega⟩,by show(d.wait++[_]).length<=_;rw[zu];exact Wh h.b.w,by show(d.log++[_]).length<=_;rw[zu];exact Wh h.b.l,h.b.s,h.b.s0⟩,h.n,h.bl,by have:=h.ep;show-((N+1:Nat):Int)<=d.ep/\d.ep<=((N+1:Nat):Int);omega,h.lg.snoc ⟨1,{w with e:=d.ep},[]⟩ hw.1 (z7 _),hM⟩
theorem Fd.run{bad:List Int}:∀(l:List Stp) {d:Dk} {N:Nat},Fd bad d N->N+l.length<=90000->(∀s∈l,QEy s)->Fd bad (Q4 bad d l).1 (N+l.length)
 |[],d,N,h,hM,_=>h
 | .wr w::t,d,N,h,hM,hl=>by
  have hM':N+(t.length+1)<=90000:=hM;show Fd bad (Q4 bad d (.wr w::t)).1 (N+(t.length+1));unfold Q4;split
  ·exact (h.tk om).mono om hM'
  ·have:=Fd.run t (h.wr om w (hl _ zo)) om λs hs=>hl s (zk _ hs);exact this.mono om hM'
 | .bar::t,d,N,h,hM,hl=>by
  have hM':N+(t.length+1)<=90000:=hM;show Fd bad (Q4 bad d (.bar::t)).1 (N+(t.length+1));unfold Q4;split
  ·exact (h.tk om).mono om hM'
  ·have:=Fd.run t (h.bar om) om λs hs=>hl s (zk _ hs);exact this.mono om hM'
def doA(b:Bool)(bad:List Int)(T:Nat->Nat)(l:List Stp):Nat×Dk->S|(k,D)=>⟨[(0,.ptr 5 0),(1,.d (.fs 37 (l.map JK))),(5,.d (.it .i64 0)),(8,.d (.fs 37 (l.map JK))),(9,.d (.it .i64 (l.length:Nat))),(10,.d (.it .i64 (k:Nat)))],Qa b bad D++Qr 6 [0,5] T,9⟩
theorem QD3(h:Fd bad d N)(l:List Stp)(hw:∀s∈l,QEy s)(hl:l.length<=100):
  FnH Tryz.prog 130 [.ptr 5 0,.d (.fs 37 (l.map JK))] (Qa b bad d) 6 [0,5] (.d (.it .i64 (Q4 bad d l).2)) (Qa b bad (Q4 bad d l).1) 6:=by
 have hwl:(l.map JK).length=l.length:=zb ..;have hN:=h.hN;obtain⟨R,hR⟩:∃R,Q4 bad d l=R:=⟨_,rfl⟩;rw[hR];refine QL QUP λT=>?_;(repeat' (conv=>whnf);first|refine QA ?_|intro x hx hu|intro h|apply sS);conv=>whnf
 refine Ql QB (λx:Nat×Dk=>x.1<=l.length/\Q4 bad x.2 (l.drop x.1)=R/\DB x.2 (N+x.1)/\x.2.safe.length=65/\ -((N+x.1:Nat):Int)<=x.2.ep/\x.2.ep<=(N+x.1:Nat)) (doA b bad T l) (λx=>l.length-x.1) (0,d) ⟨z7 _,hR,h.b,h.n,h.ep⟩ (Wk.en ⟨ai rfl (ai rfl (ai rfl (ai rfl (ai (QK (by rw[hwl])) rr)))),rr,rfl⟩) ?_;intro⟨k,D⟩ hk0;have hk:=hk0.1;have hr:=hk0.2.1;have hb:=hk0.2.2.1;have hn:=hk0.2.2.2.1;have hep:=hk0.2.2.2.2;dsimp only at hk hr hb hn hep;by_cases hkl:k<l.length
 ·obtain ⟨s,hx⟩:=Qo hkl;have hws:=hw s (ya hx);have hdr:l.drop k=s::l.drop (k+1):=by
   obtain⟨hk',e⟩:=z6.1 hx;rw[vj hk',e]
  rw[hdr]at hr;have hbk:DB D 1000000:=⟨by have:=hb.nx;omega,by have:=hb.w;omega,by have:=hb.l;omega,hb.s,hb.s0⟩;cases s with
  |wr w=>
   unfold Q4 at hr;have hin:0<=w.a/\w.a<D.safe.length:=⟨hws.2.1,by rw[hn];exact hws.2.2⟩;have hb1:DB (wrD D w) (N+(k+1)):=⟨⟨by have:=hb.nx;show 0<=D.nx+1;omega,by have:=hb.nx;show D.nx+1<=_;omega⟩,by have:=hb.w;show(D.wait++[_]).length<=_;rw[zu,xc];omega,by have:=hb.l;show(D.log++[_]).length<=_;rw[zu,xc];omega,hb.s,hb.s0⟩;obtain⟨wa,wS,wk,wi,we⟩:=w;have hW:=QRM b bad D wa wS hws.1 wk wi hbk hin;by_cases hbad:D.nx∈bad
   ·rw [if_pos hbad]at hr;rw[if_pos hbad,if_pos hbad]at hW;obtain⟨g,rfl⟩:=ZO hws.1;(repeat' (conv=>whnf);first|with_reducible refine Qk hx ?_|with_reducible refine AtA.mk' ?_|refine CallI.h hW [0,1,2,3,4] ?_|refine gOI ?_|intro x hx hu|intro h|apply sS);all_goals try omega
    rw[<-hr];exact QH
   ·rw [if_neg hbad]at hr;rw[if_neg hbad,if_neg hbad]at hW;obtain⟨g,rfl⟩:=ZO hws.1;(repeat' (conv=>whnf);first|with_reducible refine Qk hx ?_|with_reducible refine AtA.mk' ?_|refine CallI.h hW [0,1,2,3,4] ?_|refine gOI ?_|intro x hx hu|intro h|apply sS);all_goals try omega
    exact⟨(k+1,wrD D ⟨wa,Qv g,wk,wi,we⟩),⟨hkl,hr,hb1,hn,by show-((N+(k+1):Nat):Int)<=D.ep/\D.ep<=((N+(k+1):Nat):Int);omega⟩,by first|omega|(dsimp only;omega),Wk.en ⟨ai rfl (ai rfl (ai rfl (ai rfl (ai rfl (ai (QK om) trivial))))),rr,rfl⟩⟩
  |bar=>
   unfold Q4 at hr;have hb1:DB (YX D) (N+(k+1)):=⟨⟨by have:=hb.nx;show 0<=D.nx+1;omega,by have:=hb.nx;show D.nx+1<=_;omega⟩,by have:=hb.w;show D.wait.length<=_;omega,by have:=hb.l;show(D.log++[_]).length<=_;rw[zu,xc];omega,hb.s,hb.s0⟩;have hW:=QKK b bad D hbk om;by_cases hbad:D.nx∈bad
   ·rw [if_pos hbad]at hr;rw[if_pos hbad,if_pos hbad]at hW;(repeat' (conv=>whnf);first|with_reducible refine Qk hx ?_|with_reducible refine AtA.mk' ?_|refine CallI.h hW [0,1,2,3,4] ?_|refine gOI ?_|intro x hx hu|intro h|apply sS);all_goals try omega
    rw[<-hr];exact QH
   ·rw [if_neg hbad]at hr;rw[if_neg hbad,if_neg hbad]at hW;(repeat' (conv=>whnf);first|with_reducible refine Qk hx ?_|with_reducible refine AtA.mk' ?_|refine CallI.h hW [0,1,2,3,4] ?_|refine gOI ?_|intro x hx hu|intro h|apply sS);all_goals try omega
    exact⟨(k+1,YX D),⟨hkl,hr,hb1,hn,by show-((N+(k+1):Nat):Int)<=D.ep+1/\D.ep+1<=((N+(k+1):Nat):Int);omega⟩,by first|omega|(dsimp only;omega),Wk.en ⟨ai rfl (ai rfl (ai rfl (ai rfl (ai rfl (ai (QK om) trivial))))),rr,rfl⟩⟩
 ·have hnil:l.drop k=[]:=vh om;rw[hnil]at hr;replace hr:(D,(0:Int))=R:=hr;(repeat' (conv=>whnf);first|refine QA ?_|intro x hx hu|intro h|apply sS);rw[<-hr];exact QH
def tgB(tags:List (Int×Int))(w:Wr):Bool:=decide ((w.k,w.i)∈tags)
def QHf(tags:List (Int×Int))(r:Option Int)(w:Wr):Option Int:=
 if tgB tags w=true then(match r with|none=>some w.e|some x=>some (max x w.e))else r
def Zi(tags:List (Int×Int))(l:List Wr):Option Int:=l.foldl (QHf tags) none
def JB(tags:List (Int×Int))(top:Option Int)(w:Wr):Bool:=tgB tags w||match top with|none=>false|some x=>decide (w.e<x)
def Xm(m:Wr->Bool):List Wr->List Wr
 |[]=>[]
 |w::t=>if m w=true\/t.any (λv=>m v&&decide (v.a=w.a))=true then Xm m t else w::Xm m t
def evS(tags:List (Int×Int)):List D:=[.it .i64 2]++QR w0++[.fs 2 (tags.map Qe)]
def QBq(tags:List (Int×Int))(d:Dk):Dk:=⟨d.nx+1,QY d.safe (d.wait.filter (JB tags (Zi tags d.wait))),Xm (JB tags (Zi tags d.wait)) d.wait,d.log++[evS tags],d.ep⟩
theorem QCT(m:Wr->Bool):∀(t:List Wr),∀w∈Xm m t,w∈t/\m w=false
 |[],w,h=>by cases h
 |v::t,w,h=>by
  unfold Xm at h;split at h
  ·obtain ⟨h1,h2⟩:=QCT m t w h;exact⟨zk _ h1,h2⟩
  ·rename_i hc;rcases zi.1 h with rfl|h
   ·refine ⟨zo,?_⟩;cases hm:m w with
    |false=>rfl
    |true=>exact absurd (.inl hm) hc
   ·obtain ⟨h1,h2⟩:=QCT m t w h;exact⟨zk _ h1,h2⟩
theorem QPO(a b:Int×Int):Xg (Qe a) (Qe b)=decide (a=b):=by
 obtain⟨a,c⟩:=a;obtain⟨b,d⟩:=b;show((a==b)&&((c==d)&&true))=_;rw[wh,x8,zf,beq_iff_eq,beq_iff_eq,decide_eq_true_eq,xo]
def mpT(l:List (Int×Int)):List (List D×D):=l.foldl (λm t=>QAc m (Qe t) (.it .i64 1)) []
theorem QHg(l:List (Int×Int))(t:Int×Int):mpT (l++[t])=QAc (mpT l) (Qe t) (.it .i64 1):=by unfold mpT;rw[vz];rfl
theorem QKQ:∀(m:List (List D×D)) (x t:Int×Int) (v:D),ZU m (Qe x)=none->ZU (m++[(Qe x,v)]) (Qe t)=if x=t then some v else ZU m (Qe t)
 |[],x,t,v,_=>by
  show(bif Xg (Qe x) (Qe t)then some v else none)=_;rw[QPO];by_cases h:x=t
  ·rw [if_pos h,decide_eq_true h];rfl
  ·rw [if_neg h,decide_eq_false h];rfl
 |(k,u)::m,x,t,v,h=>by
  simp only[ZU]at h;cases hk:Xg k (Qe x)with
  |true=>rw[hk,cond_true]at h;cases h
  |false=>
   rw[hk,cond_false]at h;have ih:=QKQ m x t v h;show(bif Xg k (Qe t)then some u else ZU (m++_) (Qe t))=if x=t then some v else(bif Xg k (Qe t)then some u else ZU m (Qe t))
   by_cases e:x=t
   ·subst e;rw[hk,cond_false,ih];rfl
   ·rw [ih,if_neg e,if_neg e]
theorem QKR:∀(m:List (List D×D)) (_:∀p∈m,∃t,p.1=Qe t) (x t:Int×Int) (v w:D),ZU m (Qe x)=some w->ZU (QKB m (QAb m (Qe x)) v) (Qe t)=if x=t then some v else ZU m (Qe t)
 |[],_,x,t,v,w,h=>by cases h
 |(k,u)::m,hm,x,t,v,w,h=>by
  obtain⟨y,hy⟩:=hm _ zo;have hy:k=Qe y:=hy;subst hy;simp only[ZU]at h;simp only[QAb];rw[QPO]at h⊢;by_cases e:y=x
  ·subst e;rw[decide_eq_true rfl,cond_true];show(bif Xg (Qe y) (Qe t)then some v else ZU m (Qe t))=if y=t then some v else(bif Xg (Qe y) (Qe t)then some u else ZU m (Qe t))
   rw[QPO];by_cases ht:y=t
   ·rw [if_pos ht,decide_eq_true ht];rfl
   ·rw [if_neg ht,decide_eq_false ht];rfl
  ·rw [decide_eq_false e,cond_false]at h⊢;have ih:=QKR m (λp hp=>hm p (zk _ hp)) x t v w h;show(bif Xg (Qe y) (Qe t)then some u else ZU (QKB m _ v) (Qe t))=if x=t then some v else(bif Xg (Qe y) (Qe t)then some u else ZU m (Qe t))
   rw[QPO,ih];by_cases ht:y=t
   ·rw [decide_eq_true ht,cond_true,cond_true,if_neg (λh=>e (ht.trans h.symm))]
   ·rw [decide_eq_false ht];rfl
theorem QFP:∀(m:List (List D×D)) (i:Nat) (v:D),(∀p∈m,∃t,p.1=Qe t)->∀p∈QKB m i v,∃t,p.1=Qe t
 |[],_,_,_,p,hp=>by cases hp
 |(k,u)::m,0,v,hm,p,hp=>by
  rcases zi.1 hp with rfl|hp
  ·exact hm (k,u) zo
  ·exact hm p (zk _ hp)
 |q::m,i+1,v,hm,p,hp=>by
  rcases zi.1 hp with rfl|hp
  ·exact hm _ zo
  ·exact QFP m i v (λp hp=>hm p (zk _ hp)) p hp
theorem QPP(l:List (Int×Int)):(∀p∈mpT l,∃t,p.1=Qe t)/\∀t,ZU (mpT l) (Qe t)=if t∈l then some (.it .i64 1)else none:=by
 have key:∀k,k<=l.length->(∀p∈mpT (l.take k),∃t,p.1=Qe t)/\∀t,ZU (mpT (l.take k)) (Qe t)=if t∈l.take k then some (.it .i64 1)else none:=by
  intro k;induction k with
  |zero=>intro _;exact⟨λp hp=>(by cases hp),λt=>rfl⟩
  |succ k ih=>
   intro hk;obtain⟨x,hx⟩:=Qo (show k<l.length by omega);obtain⟨h1,h2⟩:=ih om;rw[QW hx,QHg];have hx2:=h2 x;have hmem:∀t,t∈l.take k++[x]↔t∈l.take k\/t=x:=λt=>by rw[yd,yr]
   unfold QAc;by_cases hi:x∈l.take k
   ·rw [if_pos hi]at hx2;rw[hx2];refine⟨QFP _ _ _ h1,λt=>?_⟩;dsimp only;rw[QKR _ h1 x t _ _ hx2,h2];by_cases e:x=t
    ·rw [if_pos e,if_pos ((hmem t).2 (.inr e.symm))]
    ·rw [if_neg e];by_cases ht:t∈l.take k
     ·rw [if_pos ht,if_pos ((hmem t).2 (.inl ht))]
     ·rw [if_neg ht,if_neg (λh=>((hmem t).1 h).elim ht (λh=>e h.symm))]
   ·rw [if_neg hi]at hx2;rw[hx2];refine⟨λp hp=>?_,λt=>?_⟩
    ·rcases yd.1 hp with hp|hp
     ·exact h1 p hp
     ·rw [yr.1 hp];exact⟨x,rfl⟩
    dsimp only;rw[QKQ _ x t _ hx2,h2];by_cases e:x=t
    ·rw [if_pos e,if_pos ((hmem t).2 (.inr e.symm))]
    ·rw [if_neg e];by_cases ht:t∈l.take k
     ·rw [if_pos ht,if_pos ((hmem t).2 (.inl ht))]
     ·rw [if_neg ht,if_neg (λh=>((hmem t).1 h).elim ht (λh=>e h.symm))]
 have:=key l.length (zt _)
 rwa [x7]at this
theorem QKS(l:List (Int×Int))(w:Wr):(match ZU (mpT l) [.it .i64 w.k,.it .i64 w.i]with|some v=>v|none=> .it .i64 0)=D.it .i64 (if tgB l w=true then 1 else 0):=by
 have h:=(QPP l).2 (w.k,w.i);have h:ZU (mpT l) [.it .i64 w.k,.it .i64 w.i]=_:=h;rw[h];by_cases hm:(w.k,w.i)∈l
 ·rw [if_pos hm,if_pos (show tgB l w=true from decide_eq_true hm)]
 ·rw [if_neg hm,if_neg (show¬tgB l w=true from λh=>hm (of_decide_eq_true h))]
def Jd(m:Wr->Bool):List Wr->Nat->List (List D×D)->List (List D×D)
 |[],_,M=>M
 |w::t,i,M=>Jd m t (i+1) (if m w=true then J8 M [.it .i64 w.a] (.it .i64 (i:Nat))else M)
theorem QCU(m:Wr->Bool)(w:Wr):∀(t:List Wr) (i:Nat) (M:List (List D×D)),Jd m (t++[w]) i M=if m w=true then J8 (Jd m t i M) [.it .i64 w.a] (.it .i64 ((i+t.length:Nat):Int))else Jd m t i M
 |[],i,M=>rfl
 |x::t,i,M=>by
  show Jd m (t++[w]) (i+1) _=_;rw[QCU m w t,yq,show i+1+t.length=i+(t.length+1) by omega];rfl
theorem QHh:∀(m:List (List D×D)) (_:∀p∈m,∃a,p.1=[D.it .i64 a]) (x n:Int) (v:D),ZU (J8 m [.it .i64 x] v) [.it .i64 n]=if x=n then some v else ZU m [.it .i64 n]
 |[],_,x,n,v=>by
  show(bif Xg [.it .i64 x] [.it .i64 n]then some v else none)=_;rw[QHW];by_cases h:x=n
  ·rw [if_pos h,decide_eq_true h];rfl
  ·rw [if_neg h,decide_eq_false h];rfl
 |(k,u)::t,hm,x,n,v=>by
  obtain⟨a,hka⟩:=hm _ zo;have hka:k=[D.it .i64 a]:=hka;subst hka;have ih:=QHh t (λp hp=>hm p (zk _ hp)) x n v;simp only[J8,ZU,QHW];by_cases ha:a=x
  ·subst ha;rw[decide_eq_true rfl,cond_true];simp only[ZU,QHW];by_cases h:a=n
   ·rw [if_pos h,decide_eq_true h];rfl
   ·rw [if_neg h,decide_eq_false h];rfl
  ·rw [decide_eq_false ha,cond_false];simp only[ZU,QHW];by_cases han:a=n
   ·rw [decide_eq_true han,cond_true,cond_true,if_neg (λe=>ha om)]
   ·rw [decide_eq_false han,cond_false,cond_false];exact ih
def ovB(m:Wr->Bool)(t:List Wr)(w:Wr):Bool:=t.any λv=>m v&&decide (v.a=w.a)
theorem QNB(m:Wr->Bool)(l:List Wr):(∀p∈Jd m l 0 [],∃a,p.1=[D.it .i64 a])/\∀a:Int,(ZU (Jd m l 0 []) [.it .i64 a]=none/\∀j:Nat,∀w,l[j]? =some w->m w=true->w.a≠a)\/(∃k:Nat,∃v,ZU (Jd m l 0 []) [.it .i64 a]=some (.it .i64 (k:Nat))/\l[k]? =some v/\m v=true/\v.a=a/\∀j:Nat,k<j->∀w,l[j]? =some w->m w=true->w.a≠a):=by
 have key:∀k,k<=l.length->(∀p∈Jd m (l.take k) 0 [],∃a,p.1=[D.it .i64 a])/\∀a:Int,(ZU (Jd m (l.take k) 0 []) [.it .i64 a]=none/\∀j:Nat,j<k->∀w,l[j]? =some w->m w=true->w.a≠a)\/(∃i:Nat,∃v,i<k/\ZU (Jd m (l.take k) 0 []) [.it .i64 a]=some (.it .i64 (i:Nat))/\l[i]? =some v/\m v=true/\v.a=a/\∀j:Nat,i<j->j<k->∀w,l[j]? =some w->m w=true->w.a≠a):=by
  intro k;induction k with
  |zero=>intro _;exact⟨λp hp=>(by cases hp),λa=> .inl ⟨rfl,λj hj=>by omega⟩⟩
  |succ k ih=>
   intro hk;obtain⟨x,hx⟩:=Qo (show k<l.length by omega);obtain⟨h1,h2⟩:=ih om;rw[QW hx,QCU,zy,ud (show k<=l.length by omega),y5];by_cases hm:m x=true
   ·rw [if_pos hm];refine⟨QCS _ h1 _ _,λa=>?_⟩;rw[QHh _ h1];by_cases e:x.a=a
    ·rw [if_pos e];exact .inr ⟨k,x,by omega,rfl,hx,hm,e,λj h3 h4=>by omega⟩
    ·rw [if_neg e];rcases h2 a with⟨g1,g2⟩|⟨i,v,g0,g1,g2,g3,g4,g5⟩
     ·refine .inl ⟨g1,λj hj w hw hmw=>?_⟩;by_cases hjk:j=k
      ·subst hjk;rw[hx]at hw;obtain rfl:=za hw;exact e
      ·exact g2 j om w hw hmw
     ·refine .inr ⟨i,v,by omega,g1,g2,g3,g4,λj h3 h4 w hw hmw=>?_⟩;by_cases hjk:j=k
      ·subst hjk;rw[hx]at hw;obtain rfl:=za hw;exact e
      ·exact g5 j h3 om w hw hmw
   ·rw [if_neg hm];refine⟨h1,λa=>?_⟩;rcases h2 a with⟨g1,g2⟩|⟨i,v,g0,g1,g2,g3,g4,g5⟩
    ·refine .inl ⟨g1,λj hj w hw hmw=>?_⟩;by_cases hjk:j=k
     ·subst hjk;rw[hx]at hw;obtain rfl:=za hw;exact absurd hmw hm
     ·exact g2 j om w hw hmw
    ·refine .inr ⟨i,v,by omega,g1,g2,g3,g4,λj h3 h4 w hw hmw=>?_⟩;by_cases hjk:j=k
     ·subst hjk;rw[hx]at hw;obtain rfl:=za hw;exact absurd hmw hm
     ·exact g5 j h3 om w hw hmw
 have:=key l.length (zt _);rw[x7]at this;refine⟨this.1,λa=>?_⟩;rcases this.2 a with⟨g1,g2⟩|⟨i,v,g0,g1,g2,g3,g4,g5⟩
 ·exact .inl ⟨g1,λj w hw=>g2 j (z6.1 hw).1 w hw⟩
 ·exact .inr ⟨i,v,g1,g2,g3,g4,λj hj w hw=>g5 j hj (z6.1 hw).1 w hw⟩
theorem QRQ(m:Wr->Bool)(l:List Wr)(i:Nat)(w:Wr)(hw:l[i]? =some w):∃(k:Int) (b:Bool),(match ZU (Jd m l 0 []) [.it .i64 w.a]with|some v=>(v,true)|none=>(D.it .i64 0,false))=(.it .i64 k,b)/\ -1000000<=k/\k<=(l.length:Int)+1000000/\(ovB m (l.drop (i+1)) w=true↔b=true/\(i:Int)<k):=by
 have hov:ovB m (l.drop (i+1)) w=true↔∃j:Nat,i<j/\∃v,l[j]? =some v/\m v=true/\v.a=w.a:=by
  unfold ovB;rw[Wi];constructor
  ·rintro ⟨v,hv,h2⟩;rw[zf,decide_eq_true_eq]at h2;obtain⟨j,hj,rfl⟩:=v6 hv;rw[ym]at hj;exact⟨i+1+j,by omega,_,by rw[xm,zj om],h2⟩
  ·rintro ⟨j,hj,v,hv,h2,h3⟩;refine⟨v,?_,by rw[h2,wz];exact decide_eq_true h3⟩;refine ya (i:=j-(i+1)) ?_;rw[vt,show i+1+(j-(i+1))=j by omega];exact hv
 rcases(QNB m l).2 w.a with⟨g1,g2⟩|⟨k,v,g1,g2,g3,g4,g5⟩
 ·refine ⟨0,false,by rw[g1],by omega,by omega,?_⟩;rw[hov];constructor
  ·rintro ⟨j,hj,v,hv,h2,h3⟩;exact absurd h3 (g2 j v hv h2)
  ·rintro ⟨h,_⟩;cases h
 ·have hkl:=(z6.1 g2).1;refine⟨(k:Nat),true,by rw[g1],by omega,by omega,?_⟩;rw[hov];constructor
  ·rintro ⟨j,hj,u,hu,h2,h3⟩;refine⟨rfl,?_⟩;have:¬k<j:=λh=>g5 j h u hu h2 h3;omega
  ·rintro ⟨_,h⟩;exact⟨k,by omega,v,g2,g3,g4⟩
def Yv(m:Wr->Bool)(l:List Wr)(k:Nat):List Wr:=(List.range k).filterMap λi=>match l[i]? with|some w=>if m w=true\/ovB m (l.drop (i+1)) w=true then none else some w|none=>none
theorem QFQ{m:Wr->Bool}{l:List Wr}(h:l[k]? =some w):Yv m l (k+1)=Yv m l k++if m w=true\/ovB m (l.drop (k+1)) w=true then []else [w]:=by
 unfold Yv;rw[vp,List.filterMap_append];congr 1;simp only[Vf,List.filterMap_nil,h];split
 ·rename_i h2;split at h2
  ·rename_i h3;rw[if_pos h3]
  ·cases h2
 ·rename_i x h2;split at h2
  ·cases h2
  ·rename_i h3;rw[if_neg h3];rw[za h2]
theorem QD4(m:Wr->Bool):∀(t:List Wr),Yv m t t.length=Xm m t
 |[]=>rfl
 |w::t=>by
  have ih:=QD4 m t;unfold Yv at ih⊢;rw[yq,List.range_succ_eq_map,Vf,List.filterMap_map];have e:((λi=>match (w::t)[i]? with|some x=>if m x=true\/ovB m ((w::t).drop (i+1)) x=true then none else some x|none=>none)∘Nat.succ)=λi=>match t[i]? with|some x=>if m x=true\/ovB m (t.drop (i+1)) x=true then none else some x|none=>none:=by
   funext i;simp only[Function.comp,Nat.succ_eq_add_one,Wu,jo]
  rw[e,ih];simp only[ku,jo,vl];show _=if m w=true\/t.any (λv=>m v&&decide (v.a=w.a))=true then Xm m t else w::Xm m t
  by_cases h:m w=true\/ovB m t w=true
  ·rw [if_pos h];exact(if_pos h).symm
  ·rw [if_neg h];exact(if_neg h).symm
theorem QHi(m:Wr->Bool)(l:List Wr)(k:Nat):(Yv m l k).length<=k:=by
 unfold Yv;refine xy (List.length_filterMap_le ..) ?_;rw[xj];exact zt _
def bst:Option Int->Int|none=>0|some x=>x
def smB:Option Int->Bool|none=>false|some _=>true
theorem QFR(tags:List (Int×Int))(l:List Wr)(w:Wr):Zi tags (l++[w])=QHf tags (Zi tags l) w:=by unfold Zi;rw[vz];rfl
variable {mem:List (Nat×Ob)}
theorem frD(h0:Sy.look n0 mem=some (.cells 6 [.mp n3,.d (.it .i64 d.nx),.vx 32 n4 0 d.safe.length,.ts 36 (d.wait.map QR) n1,.ts 38 d.log n2,.d (.it .i64 d.ep)]))(h4:Sy.look n4 mem=some (.vec 37 32 (d.safe.map QF) fl)):
  FrA mem [.ptr n0 0] [Qg (some d)]:=
 FrA.fp n0 0 6 6 _ (QFJ d) [] [] h0 (zt _) rfl (.pl _ _ _ _ rfl (.pl _ _ _ _ rfl (.vx _ _ _ _ _ _ _ _ h4 (zb ..) (.pl _ _ _ _ rfl (.pl _ _ _ _ rfl (.pl _ _ _ _ rfl .nil)))))) .nil
theorem frG{n5:Nat}(h5:Sy.look n5 mem=some (.cells 1 [.ptr n0 0]))(h0:Sy.look n0 mem=some (.cells 6 [.mp n3,.d (.it .i64 d.nx),.vx 32 n4 0 d.safe.length,.ts 36 (d.wait.map QR) n1,.ts 38 d.log n2,.d (.it .i64 d.ep)]))(h4:Sy.look n4 mem=some (.vec 37 32 (d.safe.map QF) fl)):
  FrA mem [.ptr n5 0] [.fp 1 [Qg (some d)]]:=
 FrA.fp n5 0 1 1 _ [Qg (some d)] [] [] h5 (zt _) rfl (frD h0 h4) .nil
variable {K:S->Prop}
theorem rFk{f:Nat}{o:Oper}{l l':List AV}{r:AV}(h:FnC Tryz.prog f l' r)(k:K (σ.put o.dst r))(hA:ArF σ.mem l l':=by first|exact ArF.fr _ _ _ _ (frG wu wu wu) (by repeat' (first|exact ArF.nil|refine ArF.pl _ _ _ _ rfl ?_))|exact ArF.fr _ _ _ _ (frD wu wu) (by repeat' (first|exact ArF.nil|refine ArF.pl _ _ _ _ rfl ?_)))
  (hr:r.flatP=true:=by with_unfolding_all exact rfl):CallI Tryz.prog N o σ f l K:=rF h k hA hr
def QD5(d:Option Dk):List (List UInt8):=match d with
 |none=>[]
 |some dk=>dk.safe
theorem QGK(d:Option Dk)(hd:Xu d):FnC Tryz.prog 49 [.d (Qg d)] (.d (.fs 32 ((QD5 d).map QF))):=by
 have hn:=Ye d;cases d with
 |none=>
  have hn:FnC Tryz.prog 57 [.d (.ot (.pointer none))] (.d (.bl true)):=hn;refine QJ i49 ?_;(repeat' (conv=>whnf);first|refine cEk hn ?_|refine QA ?_|intro x hx hu|intro h|apply sS);rfl
 |some d=>
  obtain⟨nx,safe,wait,log,ep⟩:=d;have hlen:safe.length<=65:=hd.2.2.1;by_cases h0:safe=[]
  ·subst h0;have hn:FnC Tryz.prog 57 [.d (.fp 6 (QFJ ⟨nx,[],wait,log,ep⟩))] (.d (.bl true)):=hn;refine QJ i49 ?_;(repeat' (conv=>whnf);first|refine cEk hn ?_|refine QA ?_|intro x hx hu|intro h|apply sS);rfl
  ·have hne:(safe.map QF).isEmpty=false:=by
    cases safe with
    |nil=>exact absurd rfl h0
    |cons=>rfl
   have hnb:QA5 (some ⟨nx,safe,wait,log,ep⟩)=false:=decide_eq_false λq=>h0 (yx.1 q);rw[hnb]at hn;have hml':(safe.map QF).length=safe.length:=zb ..;refine QJ i49 ?_;(repeat' (conv=>whnf);first|refine cEk hn ?_|refine cI i60 ?_|with_reducible refine Spl.no hne ?_|refine gOI ?_|intro x hx hu|intro h|apply sS);rfl
def QCV(d:Option Dk):AV:=if QBk (Y9 d)then .tup [.d (.fp 1 [Qg d]),.d (.it .i64 0)]else .tup [.d (.ot (.pointer none)),.d (.it .i64 (if QD5 d=[]then 1 else 8))]
theorem QNC(d:Option Dk):(Y9 d).length=(QD5 d).length:=by
 cases d with
 |none=>rfl
 |some dk=>unfold Y9 QD5;simp
theorem QHj(d:Option Dk)(hd:Xu d):FnC Tryz.prog 20 [.d (Qg d)] (QCV d):=by
 have hs:=QGK d hd;have hm:=QDy d hd;have hl:=QNC d;have hsl:((QD5 d).map QF).length=(QD5 d).length:=zb ..;unfold QCV;generalize Qg d=E at*
 by_cases h0:QD5 d=[]
 ·have hn:¬QBk (Y9 d):=λh=>by
   have:=h.1;rw[hl,h0]at this;cases this
  rw[if_neg hn,if_pos h0];rw[h0]at hs;refine QJ i20 ?_;(repeat' (conv=>whnf);first|refine cEk hs ?_|refine QA ?_|intro x hx hu|intro h|apply sS);rfl
 ·have h0':(QD5 d).length≠0:=λq=>h0 (yx.1 q);by_cases hp:QBk (Y9 d)
  ·rw [if_pos hp];rw[decide_eq_true hp]at hm;refine FnC.introW QB Tryz.func20 rfl Tryz.ntmps20 Tryz.call20 rfl (bll rfl) rfl ?_;(repeat' (conv=>whnf);first|refine cEk hs ?_|refine cEk hm ?_|refine QA ?_|intro x hx hu|intro h|apply sS);refine⟨⟨[(2,.d (.fp 1 [E])),(3,.d (.it .i64 0))],[],1⟩,Wk.frzPL 0 1 [.d E] wu (ai ⟨_,by with_unfolding_all exact rfl,.inr ⟨[E],by with_unfolding_all exact rfl,rfl,rfl⟩⟩ (ai ⟨_,by with_unfolding_all exact rfl,.inl rfl⟩ trivial)) trivial rfl,?_⟩;exact rfl
  ·rw [if_neg hp,if_neg h0];rw[decide_eq_false hp]at hm;refine QJ i20 ?_;(repeat' (conv=>whnf);first|refine cEk hs ?_|refine cEk hm ?_|refine QA ?_|intro x hx hu|intro h|apply sS);rfl
theorem QLh(E:D)(dk:Dk)(hE:E=Qg (some dk)):FnC Tryz.prog 50 [.d (.fp 1 [E])] (.d (.bl false)):=by
 have hE:E= .fp 6 (QFJ dk):=hE;subst hE;refine QJ i50 ?_;(repeat' (conv=>whnf);first|refine QA ?_|intro x hx hu|intro h|apply sS);rfl
theorem Je(n:Int)(h:0<=n/\n<=1000):FnC Tryz.prog 122 [.d (.it .i64 n)] (.d (.it .i64 ((n+31)/32))):=by
 refine QJ QUJ ?_;(repeat' (conv=>whnf);first|refine QA ?_|intro x hx hu|intro h|apply sS);refine QK ?_;omega
theorem QND(dk:Dk)(hd:Xu (some dk))(b:Int)(hb: -1000<=b/\b<=1000):FnC Tryz.prog 123 [.d (.fp 1 [Qg (some dk)]),.d (.it .i64 b)] (.dg 32 (QF (rdS (some dk) (40+b)))):=by
 have h:=QGD (some dk) hd (41+b-1);rw[show rdS (some dk) (41+b-1)=rdS (some dk) (40+b)from congrArg _ om]at h;have hs:=Yd hd (40+b);have h:FnC Tryz.prog 12 [.d (.fp 6 (QFJ dk)),.d (.it .i64 (41+b-1))] (.tup [.dg 32 (QF (rdS (some dk) (40+b))),.d (.it .i64 (rdE (some dk) (41+b-1)))]):=h;show FnC Tryz.prog 123 [.d (.fp 1 [.fp 6 (QFJ dk)]),.d (.it .i64 b)] _;obtain⟨g,hg⟩:=ZO hs;rw[hg]at h⊢;refine QJ QUK ?_;(repeat' (conv=>whnf);first|refine cEk h ?_|refine QA ?_|intro x hx hu|intro h|apply sS);all_goals rfl
theorem QHk:∀(l:List (List UInt8)),(∀s∈l,s.length<=8)->(Zu l).length<=9*l.length
 |[],_=>zt _
 |s::t,h=>by
  have h1:=QHk t λx hx=>h x (zk _ hx);have h2:=h s zo;have e:Zu (s::t)=47::s++Zu t:=rfl;rw[e,zu,yq,yq];omega
theorem QKT(p:List UInt8):(Zq p).1.length<=100:=by
 unfold Zq;split
 ·exact z7 _
 ·split
  ·exact z7 _
  ·have h1:=QAB p;have h2:=QHk (QO p).1.dropLast λs hs=>QDw h1.2.1 s (List.dropLast_subset _ hs);have h3:(QO p).1.dropLast.length<=4:=by rw[Va];omega
   unfold XI;split
   ·show [47].length<=100;decide
   ·show (Zu _).length<=100;omega
def QKU(a:Plc):List D:=[.it .i64 a.fo,.st a.nm,.it .i64 a.k]
def QTR(a:Plc×Int):AV:= .tup [.dg 3 (QKU a.1),.d (.it .i64 a.2)]
theorem JM(a:Plc):FnC Tryz.prog 146 [.dg 3 (QKU a)] (.d (.bl (decide (0<=a.k)))):=by
 obtain⟨fo,nm,k⟩:=a;refine QJ QUW ?_;(repeat' (conv=>whnf);first|refine QA ?_|intro x hx hu|intro h|apply sS);rfl
theorem QBr(dk:Dk)(hd:Xu (some dk))(n:Int):FnC Tryz.prog 127 [.d (.fp 1 [Qg (some dk)]),.d (.it .i64 n)] (.d (.it .i64 (Qu (rdS (some dk)) n).k)):=by
 have hi:=YG (some dk) hd n;generalize Qg (some dk)=E at*
 generalize Qu (rdS (some dk)) n=x at*
 obtain⟨k,z,b0,b1,b2,b3⟩:=x;refine QJ QUM ?_;(repeat' (conv=>whnf);first|refine cEk hi ?_|refine QA ?_|intro x hx hu|intro h|apply sS);rfl
theorem QD6(dk:Dk)(hd:Xu (some dk))(p:List UInt8)(hp:p.length<=100000):FnC Tryz.prog 144 [.d (.fp 1 [Qg (some dk)]),.d (.st p)] (QTR (ZS (rdS (some dk)) p)):=by
 have h1:=QI5 p hp;rw[QGH]at h1;have hul:=QKT p;have h2:=Jb (some dk) hd (Zq p).1 om;have h3:=QBr dk hd (Qj (rdS (some dk)) (Zq p).1).1;have h4:=QKI (some dk) hd (Qj (rdS (some dk)) (Zq p).1).1 (Zq p).2.1;unfold ZS QLe;generalize Qj (rdS (some dk)) (Zq p).1=r at*
 generalize Zq p=q at*
 obtain⟨up,nm,e⟩:=q;obtain⟨n,g⟩:=r;dsimp only at*
 generalize rdS (some dk)=f at*
 generalize Qg (some dk)=E at*
 replace h2:FnC Tryz.prog 13 [.d E,.d (.st up)] (.tup [.d (.it .i64 n),.d (.it .i64 g)]):=h2;replace h1:FnC Tryz.prog 181 [.d (.st p)] (.tup [.d (.st up),.d (.st nm),.d (.it .i64 e)]):=h1;generalize (Qu f n).k=kk at*
 by_cases c1:e=0
 ·subst c1;rw[if_neg (by simp)];by_cases c2:g=0
  ·subst c2;rw[if_neg (by simp)];by_cases c3:kk=2
   ·subst c3;rw[if_neg (by simp)];cases hk:JA f n nm with
    |none=>
     rw[hk]at h4;replace h4:FnC Tryz.prog 112 [.d E,.d (.it .i64 n),.d (.st nm)] (.tup [.d (.it .i64 0),.d (.bl false)]):=h4;refine QJ QMK ?_;(repeat' (conv=>whnf);first|refine cEk h1 ?_|refine cEk h2 ?_|refine cEk h3 ?_|refine cEk h4 ?_|refine QA ?_|intro x hx hu|intro h|apply sS);rfl
    |some k=>
     rw[hk]at h4;replace h4:FnC Tryz.prog 112 [.d E,.d (.it .i64 n),.d (.st nm)] (.tup [.d (.it .i64 (k:Nat)),.d (.bl true)]):=h4;refine QJ QMK ?_;(repeat' (conv=>whnf);first|refine cEk h1 ?_|refine cEk h2 ?_|refine cEk h3 ?_|refine cEk h4 ?_|refine QA ?_|intro x hx hu|intro h|apply sS);rfl
   ·rw [if_pos c3];refine QJ QMK ?_;(repeat' (conv=>whnf);first|refine cEk h1 ?_|refine cEk h2 ?_|refine cEk h3 ?_|refine QA ?_|intro x hx hu|intro h|apply sS);rfl
  ·rw [if_pos c2];refine QJ QMK ?_;(repeat' (conv=>whnf);first|refine cEk h1 ?_|refine cEk h2 ?_|refine QA ?_|intro x hx hu|intro h|apply sS);rfl
 ·rw [if_pos c1];refine QJ QMK ?_;(repeat' (conv=>whnf);first|refine cEk h1 ?_|refine QA ?_|intro x hx hu|intro h|apply sS);rfl
def QLi(a:Plc×Int):Plc×Int:=if a.2=0/\a.1.k<0 then(a.1,4)else a
theorem QNE(dk:Dk)(hd:Xu (some dk))(p:List UInt8)(hp:p.length<=100000):FnC Tryz.prog 126 [.d (.fp 1 [Qg (some dk)]),.d (.st p)] (QTR (QLi (ZS (rdS (some dk)) p))):=by
 have h1:=QD6 dk hd p hp;have h2:=JM (ZS (rdS (some dk)) p).1;generalize ZS (rdS (some dk)) p=a at*
 obtain⟨⟨fo,nm,k⟩,e⟩:=a;generalize Qg (some dk)=E at*
 replace h1:FnC Tryz.prog 144 [.d (.fp 1 [E]),.d (.st p)] (.tup [.dg 3 [.it .i64 fo,.st nm,.it .i64 k],.d (.it .i64 e)]):=h1;replace h2:FnC Tryz.prog 146 [.dg 3 [.it .i64 fo,.st nm,.it .i64 k]] (.d (.bl (decide (0<=k)))):=h2;unfold QLi;dsimp only;by_cases c1:e=0
 ·subst c1;by_cases c2:k<0
  ·rw [if_pos ⟨rfl,c2⟩];rw[decide_eq_false om]at h2;refine QJ QQ1 ?_;(repeat' (conv=>whnf);first|refine cEk h1 ?_|refine cEk h2 ?_|refine QA ?_|intro x hx hu|intro h|apply sS);rfl
  ·rw [if_neg (by simp[c2])];rw[decide_eq_true om]at h2;refine QJ QQ1 ?_;(repeat' (conv=>whnf);first|refine cEk h1 ?_|refine cEk h2 ?_|refine QA ?_|intro x hx hu|intro h|apply sS);rfl
 ·rw [if_neg (by simp[c1])];refine QJ QQ1 ?_;(repeat' (conv=>whnf);first|refine cEk h1 ?_|refine QA ?_|intro x hx hu|intro h|apply sS);rfl
def QTS(q:Int×Ino×Int):AV:= .tup [.d (.it .i64 q.1),.dg 6 (Zn q.2.1),.d (.it .i64 q.2.2)]
theorem QD7(dk:Dk)(hd:Xu (some dk))(p:List UInt8)(hp:p.length<=100000):FnC Tryz.prog 103 [.d (.fp 1 [Qg (some dk)]),.d (.st p)] (QTS (Xv (rdS (some dk)) p)):=by
 have hl:=Jb (some dk) hd p hp;have hi:=YG (some dk) hd (Qj (rdS (some dk)) p).1;have hn:=QLh (Qg (some dk)) dk rfl;unfold Xv;generalize Qj (rdS (some dk)) p=r at*
 obtain⟨n,g⟩:=r;dsimp only at*
 generalize Qg (some dk)=E at*
 replace hl:FnC Tryz.prog 13 [.d E,.d (.st p)] (.tup [.d (.it .i64 n),.d (.it .i64 g)]):=hl;generalize Qu (rdS (some dk)) n=x at*
 obtain⟨k,z,b0,b1,b2,b3⟩:=x;by_cases c1:g=0
 ·subst c1;rw[if_neg (by simp)];by_cases c2:k=1
  ·subst c2;rw[if_neg (by simp)];refine QJ QQ0 ?_;(repeat' (conv=>whnf);first|refine cEk hn ?_|refine cEk hl ?_|refine cEk hi ?_|refine QA ?_|intro x hx hu|intro h|apply sS);rfl
  ·rw [if_pos c2];refine QJ QQ0 ?_;(repeat' (conv=>whnf);first|refine cEk hn ?_|refine cEk hl ?_|refine cEk hi ?_|refine QA ?_|intro x hx hu|intro h|apply sS);rfl
 ·rw [if_pos c1];refine QJ QQ0 ?_;(repeat' (conv=>whnf);first|refine cEk hn ?_|refine cEk hl ?_|refine cEk hi ?_|refine QA ?_|intro x hx hu|intro h|apply sS);rfl
def QVD:D->Bool
 | .it .. =>true
 |_=>false
theorem QDW:∀l:List D,l.all QVD=true->Yg l l=true
 |[],_=>rfl
 |x::t,h=>by
  rw[y9,zf]at h;show(eqD x x&&Yg t t)=true;rw[QDW t h.2,wh];cases x<;>first|(cases h.1;done)|simp[eqD]
theorem QRR(h:b=true):(!b)=false:=by rw[h];rfl
theorem QGL(h:Spl b A B):Spl b A B:=h
theorem QPQ(l:List (Int×Int))(hl:l.length<=100000):FnC Tryz.prog 66 [.d (.fs 2 (l.map Qe)),.d (.fs 2 (l.map Qe))] (.d (.bl true)):=by
 have hv:(l.map Qe).length=l.length:=zb ..;refine QJ i66 ?_;(repeat' (conv=>whnf);first|refine QA ?_|intro x hx hu|intro h|apply sS);conv=>whnf
 refine QT QB (λk:Nat=>k<=l.length) (λk=>⟨[(0,.d (.fs 2 (l.map Qe))),(1,.d (.fs 2 (l.map Qe))),(5,.d (.it .i64 (k:Nat)))],[],0⟩) (λk=>l.length-k) 0 (z7 _) ⟨rr,trivial,rfl⟩ ?_;intro k hk;by_cases hkl:k<l.length
 ·obtain ⟨x,hx⟩:=Qo hkl;have hxe:(l.map Qe)[k]? =some (Qe x):=by rw[yv,hx];rfl
  obtain⟨xa,xb⟩:=x;(repeat' (conv=>whnf);first|((with_reducible refine QGL ?_);refine Spl.no (QRR (QDW _ rfl)) ?_)|with_reducible refine AtA.mk' ?_|refine Yk hxe ?_|refine QA ?_|intro x hx hu|intro h|apply sS);refine again (k+1) hkl (by first|omega|(dsimp only;omega)) (ai rfl (ai rfl (ai (QK om) trivial))) trivial rfl
 ·(repeat' (conv=>whnf);first|refine QA ?_|intro x hx hu|intro h|apply sS);rfl
theorem QKV(es:List Evt)(hw:∀e∈es,e.w.s.length=32/\e.t.length<=1000)(hl:es.length<=100000):FnC Tryz.prog 26 [.d (.fs 38 (es.map YJ)),.d (.fs 38 (es.map YJ))] (.d (.bl true)):=by
 have hv:(es.map YJ).length=es.length:=zb ..;refine QJ i26 ?_;(repeat' (conv=>whnf);first|refine QA ?_|intro x hx hu|intro h|apply sS);conv=>whnf
 refine QT QB (λk:Nat=>k<=es.length) (λk=>⟨[(0,.d (.fs 38 (es.map YJ))),(1,.d (.fs 38 (es.map YJ))),(5,.d (.it .i64 (k:Nat)))],[],0⟩) (λk=>es.length-k) 0 (z7 _) ⟨rr,trivial,rfl⟩ ?_;intro k hk;by_cases hkl:k<es.length
 ·obtain ⟨x,hx⟩:=Qo hkl;have hxs:=hw x (ya hx);have hxe:(es.map YJ)[k]? =some (YJ x):=by rw[yv,hx];rfl
  obtain⟨xk,⟨xa,xs,xt,xi,xe⟩,tg⟩:=x;have ht:=QPQ tg (by have:=hxs.2;dsimp only at this;omega);obtain⟨g,rfl⟩:=ZO hxs.1;(repeat' (conv=>whnf);first|((with_reducible refine QGL ?_);refine Spl.no (QRR (QDW _ rfl)) ?_)|with_reducible refine AtA.mk' ?_|refine Yk hxe ?_|refine cEk ht ?_|refine ZK.mk ⟨_,ht,?_⟩|refine QA ?_|intro x hx hu|intro h|apply sS);refine again (k+1) hkl (by first|omega|(dsimp only;omega)) (ai rfl (ai rfl (ai (QK om) trivial))) trivial rfl
 ·(repeat' (conv=>whnf);first|refine QA ?_|intro x hx hu|intro h|apply sS);rfl
theorem QD8{α:Type}{l:List α}{c:α}(h:l[k]? =some c):l.take k++[c]++l.drop (k+1)=l:=by
 obtain⟨h1,h2⟩:=z6.1 h;rw[x4,jf,<-h2,<-vj h1,qg]
theorem QHl(es:List (List D))(hl:es.length<=100000):FnC Tryz.prog 68 [.d (.fs 2 es)] (.d (.fs 2 es)):=by
 refine QJ i68 ?_;(repeat' (conv=>whnf);first|refine QA ?_|intro x hx hu|intro h|apply sS);all_goals first|rfl|(obtain rfl:es=[]:=(by cases es with|nil=>rfl|cons=>(rename_i h _;cases h));rfl)
def lvA(b:Bool)(bad:List Int)(d:Dk)(es:List Evt)(T0:Nat)(k:Nat):S:=⟨[(3,.vx 38 10 0 es.length),(13,.d (.it .i64 (es.length:Nat))),(14,.d (.it .i64 (k:Nat)))],(10,.vec 110 38 (es.map YJ) false)::[(0,.cells 6 [.mp 3,.d (.it .i64 d.nx),.vx 32 4 0 d.safe.length,.ts 36 (d.wait.map QR) 1,.ts 38 (es.map YJ) 2,.d (.it .i64 d.ep)]),(1,.tail 49 true),(2,.tail 110 true),(3,.mp b false [.it .i64 0] (QAG bad)),(4,.vec 37 32 (d.safe.map QF) false),(5,.frame 6 [(0,.ptr 0 0)]),(6,.tag 0 T0)],11⟩
theorem QPR(b:Bool)(bad:List Int)(d:Dk)(es:List Evt)(hl:d.log=es.map YJ)(hs:d.safe.length≠0)(hlen:es.length<=100000)(hw0:es≠[])(hw:∀e∈es,e.w.s.length=32/\e.t.length<=1000):FnH Tryz.prog 27 [.ptr 0 0] (Z4 b bad d) 5 [0] (.d (.fs 38 d.log)) (Z4 b bad d) 5:=by
 have hn:FnC Tryz.prog 57 [.d (Qg (some d))] (.d (.bl false)):=by
  have:=Ye (some d);rw[show QA5 (some d)=false from decide_eq_false hs]at this;exact this
 have hne:(es.map YJ).isEmpty=false:=by
  cases es with
  |nil=>exact absurd rfl hw0
  |cons=>rfl
 have hll:(es.map YJ).length=es.length:=zb ..;have hd:Z4 b bad d=[(0,.cells 6 [.mp 3,.d (.it .i64 d.nx),.vx 32 4 0 d.safe.length,.ts 36 (d.wait.map QR) 1,.ts 38 (es.map YJ) 2,.d (.it .i64 d.ep)]),(1,.tail 49 true),(2,.tail 110 true),(3,.mp b false [.it .i64 0] (QAG bad)),(4,.vec 37 32 (d.safe.map QF) false)]:=by rw[<-hl];rfl
 have he:Qg (some d)=D.fp 6 [.an,.it .i64 d.nx,.fs 32 (d.safe.map QF),.fs 36 (d.wait.map QR),.fs 38 (es.map YJ),.it .i64 d.ep]:=by rw[<-hl];rfl
 have hv:∀ {mem:List (Nat×Ob)},Sy.look 0 mem=some (.cells 6 [.mp 3,.d (.it .i64 d.nx),.vx 32 4 0 d.safe.length,.ts 36 (d.wait.map QR) 1,.ts 38 (es.map YJ) 2,.d (.it .i64 d.ep)])->Sy.look 4 mem=some (.vec 37 32 (d.safe.map QF) false)->FrA mem [.ptr 0 0] [Qg (some d)]:=fun{mem} h0 h4=>frD (by rw[<-hl]at h0;exact h0) h4;rw[hd,hl];refine QL i27 λT=>?_;(repeat' (conv=>whnf);first|refine JD.vec (ai rfl ?_)|refine JD.vec ?_|with_reducible refine Spl.no hne ?_|refine CallI.byR (Jj.mkF ⟨_,_,ArF.fr _ _ _ _ (hv wu wu) ArF.nil,hn,wu,?_⟩)|refine cI i67 ?_|refine gOI ?_|intro x hx hu|intro h|apply sS);conv=>whnf
 refine QT QB (λk:Nat=>k<=es.length) (lvA b bad d es (T 0)) (λk=>es.length-k) 0 (z7 _) ⟨ai (QQo hll) (ai (QK (by rw[hll])) rr),rr,rfl⟩ ?_;intro k hk;by_cases hkl:k<es.length
 ·obtain ⟨x,hx⟩:=Qo hkl;have hxs:=hw x (ya hx);obtain⟨xk,⟨xa,xs,xt,xi,xe⟩,tg⟩:=x;have ht:=QHl (tg.map Qe) (by rw[zb];have:=hxs.2;dsimp only at this;omega);obtain⟨g,rfl⟩:=ZO hxs.1;have hxe:(es.map YJ)[k]? =some (YJ ⟨xk,⟨xa,Qv g,xt,xi,xe⟩,tg⟩):=by rw[yv,hx];rfl
  have hsm:=QD8 hxe;have hxe0:(es.map YJ)[0+((k:Nat):Int).toNat]? =some (YJ ⟨xk,⟨xa,Qv g,xt,xi,xe⟩,tg⟩):=by rw[y5];exact hxe
  have hsm0:=QD8 hxe0;(repeat' (conv=>whnf);first|with_reducible refine AtA.mk' ?_|refine Yk hxe ?_|refine Yk hxe0 ?_|refine cEk ht ?_|refine OpX.storeF (es2:=es.map YJ) QB rfl rfl rfl wu wu wu wu rfl rfl rfl rfl hxe0 hsm0.symm ?_|refine QA ?_|intro x hx hu|intro h|apply sS);refine again (k+1) hkl (by first|omega|(dsimp only;omega)) (ai rfl (ai rfl (ai (QK om) trivial))) rr rfl
 ·have hke:k=es.length:=by omega
  (repeat' (conv=>whnf);first|refine QA ?_|intro x hx hu|intro h|apply sS);refine⟨⟨[(2,.d (.fs 38 (es.map YJ)))],[(0,.cells 6 [.mp 3,.d (.it .i64 d.nx),.vx 32 4 0 d.safe.length,.ts 36 (d.wait.map QR) 1,.ts 38 (es.map YJ) 2,.d (.it .i64 d.ep)]),(1,.tail 49 true),(2,.tail 110 true),(3,.mp b false [.it .i64 0] (QAG bad)),(4,.vec 37 32 (d.safe.map QF) false),(5,.frame 6 [(0,.ptr 0 0)]),(6,.tag 0 (T 0))],11⟩,
   Wk.frzL 10 110 38 (es.map YJ) false wu (ai (Fz.vx 0 es.length _ (by rw[hll];omega) (by rw[vl,z8 (by rw[hll];exact zt _)])) trivial) (ai rfl (ai (FzO.same _) (ai rfl (ai (FzO.same _) (ai rfl (ai (FzO.same _) (ai rfl (ai (FzO.same _) (ai rfl (ai (FzO.same _) (ai rfl (ai (FzO.same _) (ai rfl (ai (FzO.same _) trivial)))))))))))))) rfl,rfl,rr,rr⟩
def tpT:List D:=[.it .i64 0,.it .i64 0]
theorem QCx:Y8 Tryz.prog 47 tpT:=Y8.struct Tryz.underlying47 (by kernel_rfl) (by kernel_rfl)
def tuA(T:Nat->Nat)(tags:List (Int×Int))(M:List (List D×D))(ws:List Wr)(k:Nat):S:=⟨[(1,.mp 0),(6,.d (.it .i64 (bst (Zi tags (ws.take k))))),(7,.d (.bl (smB (Zi tags (ws.take k))))),(10,.d (.fs 36 (ws.map QR))),(11,.d (.it .i64 (ws.length:Nat))),(12,.d (.it .i64 (k:Nat)))],[(0,.mp true true tpT M),(1,.cells 1 [.mp 0])]++Qr 2 [1] T,4⟩
theorem QNF{a:Bool}(h:a=b):AV.d (.bl a)=AV.d (.bl b):=by rw[h]
theorem QRS(tags:List (Int×Int))(ws:List Wr)(hw:∀w∈ws,w.s.length=32)(hl:ws.length<=100000):
  FnH Tryz.prog 217 [.d (.fs 36 (ws.map QR)),.mp 0] [(0,.mp true true tpT (mpT tags)),(1,.cells 1 [.mp 0])] 2 [1] (.tup [.d (.it .i64 (bst (Zi tags ws))),.d (.bl (smB (Zi tags ws)))]) [(0,.mp true true tpT (mpT tags)),(1,.cells 1 [.mp 0])] 2:=by
 have hwl:(ws.map QR).length=ws.length:=zb ..;have hg0:=QKS tags;generalize mpT tags=M at*
 refine QL QUt λT=>?_;(repeat' (conv=>whnf);first|refine QA ?_|intro x hx hu|intro h|apply sS);conv=>whnf
 refine Ql QB (λk:Nat=>k<=ws.length) (tuA T tags M ws) (λk=>ws.length-k) 0 (z7 _) (Wk.en ⟨ai rfl (ai rfl (ai rfl (ai rfl (ai (QK (by rw[hwl])) rr)))),rr,rfl⟩) ?_;intro k hk;by_cases hkl:k<ws.length
 ·obtain ⟨w,hx⟩:=Qo hkl;have hws:=hw w (ya hx);have hg:=hg0 w;have htk:Zi tags (ws.take (k+1))=QHf tags (Zi tags (ws.take k)) w:=by rw[QW hx,QFR]
  have hto:∀ {N:Nat} {σ:S} {r:Option Int},QHf tags (Zi tags (ws.take k)) w=r->Wk N σ ⟨[(1,.mp 0),(6,.d (.it .i64 (bst r))),(7,.d (.bl (smB r))),(10,.d (.fs 36 (ws.map QR))),(11,.d (.it .i64 (ws.length:Nat))),(12,.d (.it .i64 ((k+1:Nat):Int)))],[(0,.mp true true tpT M),(1,.cells 1 [.mp 0])]++Qr 2 [1] T,4⟩->Wk N σ (tuA T tags M ws (k+1)):=λh q=>by unfold tuA;rw[htk,h];exact q
  have hS:QHf tags (Zi tags (ws.take k)) w=if tgB tags w=true then(match Zi tags (ws.take k)with|none=>some w.e|some x=>some (max x w.e))else Zi tags (ws.take k):=rfl
  unfold tuA;generalize Zi tags (ws.take k)=t at*
  obtain⟨wa,wS,wk,wi,we⟩:=w;obtain⟨g,rfl⟩:=ZO hws;dsimp only at hS hg;by_cases htg:tgB tags ⟨wa,Qv g,wk,wi,we⟩=true
  ·rw [if_pos htg]at hg hS;cases t with
   |none=>
    (repeat' (conv=>whnf);first|refine OpX.lookupA (kk:=2) (kx:=[.it .i64 wk,.it .i64 wi]) (l:=M) rfl rfl Tryz.underlying223 QCx (λw=>Tryz.zeroValue3 w) (λF=> .it _ _) rfl rfl rfl rfl hg ?_|with_reducible refine Qk hx ?_|with_reducible refine AtA.mk' ?_|refine QA ?_|intro x hx hu|intro h|apply sS);all_goals try omega
    exact⟨k+1,hkl,by first|omega|(dsimp only;omega),hto hS (Wk.en ⟨ai rfl (ai rfl (ai rfl (ai rfl (ai rfl (ai (QK om) trivial))))),rr,rfl⟩)⟩
   |some x=>
    by_cases hxe:x<we
    ·have hm:max x we=we:=by omega
     dsimp only at hS;rw[hm]at hS;unfold bst smB;(repeat' (conv=>whnf);first|refine OpX.lookupA (kk:=2) (kx:=[.it .i64 wk,.it .i64 wi]) (l:=M) rfl rfl Tryz.underlying223 QCx (λw=>Tryz.zeroValue3 w) (λF=> .it _ _) rfl rfl rfl rfl hg ?_|with_reducible refine Qk hx ?_|with_reducible refine AtA.mk' ?_|refine QA ?_|intro x hx hu|intro h|apply sS);all_goals try omega
     exact⟨k+1,hkl,by first|omega|(dsimp only;omega),hto hS (Wk.en ⟨ai rfl (ai rfl (ai rfl (ai rfl (ai rfl (ai (QK om) trivial))))),rr,rfl⟩)⟩
    ·have hm:max x we=x:=by omega
     dsimp only at hS;rw[hm]at hS;unfold bst smB;(repeat' (conv=>whnf);first|refine OpX.lookupA (kk:=2) (kx:=[.it .i64 wk,.it .i64 wi]) (l:=M) rfl rfl Tryz.underlying223 QCx (λw=>Tryz.zeroValue3 w) (λF=> .it _ _) rfl rfl rfl rfl hg ?_|with_reducible refine Qk hx ?_|with_reducible refine AtA.mk' ?_|refine QA ?_|intro x hx hu|intro h|apply sS);all_goals try omega
     exact⟨k+1,hkl,by first|omega|(dsimp only;omega),hto hS (Wk.en ⟨ai rfl (ai rfl (ai rfl (ai rfl (ai rfl (ai (QK om) trivial))))),rr,rfl⟩)⟩
  ·rw [if_neg htg]at hg hS;(repeat' (conv=>whnf);first|refine OpX.lookupA (kk:=2) (kx:=[.it .i64 wk,.it .i64 wi]) (l:=M) rfl rfl Tryz.underlying223 QCx (λw=>Tryz.zeroValue3 w) (λF=> .it _ _) rfl rfl rfl rfl hg ?_|with_reducible refine Qk hx ?_|with_reducible refine AtA.mk' ?_|refine QA ?_|intro x hx hu|intro h|apply sS);all_goals try omega
   exact⟨k+1,hkl,by first|omega|(dsimp only;omega),hto hS (Wk.en ⟨ai rfl (ai rfl (ai rfl (ai rfl (ai rfl (ai (QK om) trivial))))),rr,rfl⟩)⟩
 ·have hke:k=ws.length:=by omega
  subst hke;unfold tuA;rw[x7];(repeat' (conv=>whnf);first|refine QA ?_|intro x hx hu|intro h|apply sS);all_goals try omega
  exact QH
theorem QPS(tags:List (Int×Int))(t:Option Int)(w:Wr)(hws:w.s.length=32):
  FnH Tryz.prog 218 [.dg 36 (QR w),.ptr 1 0,.ptr 3 0,.ptr 2 0] [(0,.mp true true tpT (mpT tags)),(1,.cells 1 [.mp 0]),(2,.cells 1 [.d (.it .i64 (bst t))]),(3,.cells 1 [.d (.bl (smB t))])] 4 [1,2,3] (.d (.bl (JB tags t w))) [(0,.mp true true tpT (mpT tags)),(1,.cells 1 [.mp 0]),(2,.cells 1 [.d (.it .i64 (bst t))]),(3,.cells 1 [.d (.bl (smB t))])] 4:=by
 have hg:=QKS tags w;have hm:JB tags t w=(tgB tags w||match t with|none=>false|some x=>decide (w.e<x)):=rfl;generalize mpT tags=M at*
 generalize JB tags t w=R at*
 generalize tgB tags w=tg at*
 obtain⟨wa,wS,wk,wi,we⟩:=w;obtain⟨g,rfl⟩:=ZO hws;dsimp only at hg hm;cases tg with
 |true=>
  rw[if_pos rfl]at hg;rw[Vi]at hm;subst hm;refine QL QQ9 λT=>?_;(repeat' (conv=>whnf);first|refine OpX.lookupA (kk:=2) (kx:=[.it .i64 wk,.it .i64 wi]) (l:=M) rfl rfl Tryz.underlying223 QCx (λw=>Tryz.zeroValue3 w) (λF=> .it _ _) rfl rfl rfl rfl hg ?_|with_reducible refine AtA.mk' ?_|refine QA ?_|intro x hx hu|intro h|apply sS);all_goals try omega
  exact QH
 |false=>
  rw[if_neg (by decide)]at hg;rw[ul]at hm;cases t with
  |none=>
   dsimp only at hm;subst hm;refine QL QQ9 λT=>?_;(repeat' (conv=>whnf);first|refine OpX.lookupA (kk:=2) (kx:=[.it .i64 wk,.it .i64 wi]) (l:=M) rfl rfl Tryz.underlying223 QCx (λw=>Tryz.zeroValue3 w) (λF=> .it _ _) rfl rfl rfl rfl hg ?_|with_reducible refine AtA.mk' ?_|refine QA ?_|intro x hx hu|intro h|apply sS);all_goals try omega
   exact QH
  |some x=>
   dsimp only at hm;unfold bst smB;subst hm;refine QL QQ9 λT=>?_;(repeat' (conv=>whnf);first|refine OpX.lookupA (kk:=2) (kx:=[.it .i64 wk,.it .i64 wi]) (l:=M) rfl rfl Tryz.underlying223 QCx (λw=>Tryz.zeroValue3 w) (λF=> .it _ _) rfl rfl rfl rfl hg ?_|with_reducible refine AtA.mk' ?_|refine QA ?_|intro x hx hu|intro h|apply sS);all_goals try omega
   all_goals exact QH
theorem gB0{p q:Prop}(k:q)(h:q->p:=by intro k;with_reducible first|exact QLD k|exact QLE k|exact QQZ k|exact QQa k|exact QQb k|exact QLF k|exact XO.mk k|exact QQc k|exact QQd k|exact QLG k):p:=h k
def y7(bad:List Int)(d:Dk)(w:Wr)(T0:Nat):S:=⟨[(0,.ptr 0 0),(10,.ptr 6 0)],[(0,.cells 6 [.d (.fs 32 (d.safe.map QF)),.d (.fs 36 ((d.wait.map QR)++[QR w])),.d (.it .i64 d.ep),.d (.fs 38 d.log),.d (.fs 1 (vI bad)),.d (.it .i64 (d.nx+1))]),(6,.cells 36 ((QR w).map AV.d)),(1,.frame 2 [(0,.ptr 0 0)]),(2,.tag 0 T0)],7⟩
def y8(bad:List Int)(d:Dk)(w:Wr)(T0:Nat):S:=⟨[(0,.ptr 0 0)],[(0,.cells 6 [.d (.fs 32 (d.safe.map QF)),.d (.fs 36 ((d.wait.map QR)++[QR w])),.d (.it .i64 d.ep),.d (.fs 38 (d.log++[QMo w])),.d (.fs 1 (vI bad)),.d (.it .i64 (d.nx+1))]),(1,.frame 2 [(0,.ptr 0 0)]),(2,.tag 0 T0)],7⟩
theorem QQq(h:Wk N σ τ):Wk N σ τ:=h
variable {P:Program}
variable {ops:List Oper}
theorem QNG{ti:Nat->Option Ty}(h:QX P ti N 7 ops σ K):QX P ti N 7 ops σ K:=h
theorem QNH{ti:Nat->Option Ty}(h:QX P ti N 8 ops σ K):QX P ti N 8 ops σ K:=h
theorem QJC(bad:List Int)(d:Dk)(a:Int)(s:List UInt8)(hs:s.length=32)(k i:Int)(hn:0<=d.nx/\d.nx<=1000000)(hb:bad.length<=1000000)(hw:d.wait.length<=1000000)(hlg:d.log.length<=1000000)(ha:0<=a/\a<d.safe.length)(h:d.nx∉bad):
  FnH Tryz.prog 134 [.ptr 0 0,.d (.it .i64 a),.dg 32 (QF s),.dg 2 [.it .i64 k,.it .i64 i]] (Qp bad d) 1 [0] (.d (.it .i64 0)) (Qp bad (wrD d ⟨a,s,k,i,0⟩)) 1:=by
 have hin:FnC Tryz.prog 170 [.d (.fs 1 (vI bad)),.d (.it .i64 (d.nx+1-1))] (.d (.bl (decide (d.nx∈bad)))):=by
  have:=QBp bad (d.nx+1-1) hb
  rwa [show decide (d.nx+1-1∈bad)=decide (d.nx∈bad) by rw[jw]]at this
 have hl1:(d.safe.map QF).length=d.safe.length:=zb ..;have hl2:(d.wait.map QR).length=d.wait.length:=zb ..;rw[decide_eq_false h]at hin;obtain⟨g,rfl⟩:=ZO hs;refine QL QQ3 λT=>?_;(repeat' (conv=>whnf);first|with_reducible refine gA ?_|refine cEk hin ?_|refine CallE.inl ?_|refine cI QIz ?_|(((fail_if_success (with_reducible refine QNG ?_));(fail_if_success (with_reducible refine QNH ?_));first|refine Qi QB mixed dkk ?_|refine QZ QB mixed 0 dkk ?_))|(with_reducible first|refine gB0 ?_|refine gZ (λx hx hu=>?_)|refine gY (λx hx=>?_)|refine gE ?_|refine QJi.mk ?_ ?_|refine gS (λh=>?_) (λh=>?_)|refine Spl.nt ?_|refine Spl.mk (λh=>?_) (λh=>?_)));all_goals try omega
 refine QX.mid (y7 bad d ⟨a,Qv g,k,i,d.ep⟩ (T 0)) (Xs QB mixed [0,1,1,1] dkk ?_) ?_
 ·(repeat' (conv=>whnf);first|with_reducible refine gA ?_|with_reducible exact trivial|with_reducible refine Br.mk ?_ ?_|with_reducible refine AtA.mk' ?_|with_reducible refine QSH.mk (λext hext=>?_)|((with_reducible refine QQq ?_);exact Wk.vwL (ai (Vw.eq rfl) (ai (Vw.eq rfl) trivial)) (ai (VwO.cells _ _ _ (.cons (Vw.eq rfl) rfl (.cons (Vw.ts' rfl) rfl (.cons (Vw.eq rfl) rfl (.cons (Vw.eq rfl) rfl (.cons (Vw.eq rfl) rfl (.cons (Vw.eq rfl) rfl .nil))))))) (ai (VwO.same _) (ai (VwO.same _) (ai (VwO.same _) trivial)))) rfl)|(with_reducible first|refine gB0 ?_|refine gZ (λx hx hu=>?_)|refine gY (λx hx=>?_)|refine gE ?_|refine QJi.mk ?_ ?_|refine gS (λh=>?_) (λh=>?_)|refine Spl.nt ?_|refine Spl.mk (λh=>?_) (λh=>?_)))
 refine QX.mid (y8 bad d ⟨a,Qv g,k,i,d.ep⟩ (T 0)) (Xs QB mixed [0,1,1,1] dkk ?_) ?_
 ·(repeat' (conv=>whnf);first|with_reducible refine gA ?_|with_reducible exact trivial|with_reducible refine Br.mk ?_ ?_|with_reducible refine AtA.mk' ?_|with_reducible refine QSH.mk (λext hext=>?_)|((with_reducible refine QQq ?_);exact Wk.vwL (ai (Vw.eq rfl) trivial) (ai (VwO.cells _ _ _ (.cons (Vw.eq rfl) rfl (.cons (Vw.eq rfl) rfl (.cons (Vw.eq rfl) rfl (.cons (Vw.ts' rfl) rfl (.cons (Vw.eq rfl) rfl (.cons (Vw.eq rfl) rfl .nil))))))) (ai (VwO.same _) (ai (VwO.same _) trivial))) rfl)|(with_reducible first|refine gB0 ?_|refine gZ (λx hx hu=>?_)|refine gY (λx hx=>?_)|refine gE ?_|refine QJi.mk ?_ ?_|refine gS (λh=>?_) (λh=>?_)|refine Spl.nt ?_|refine Spl.mk (λh=>?_) (λh=>?_)))
 (repeat' (conv=>whnf);first|refine QA ?_|intro x hx hu|intro h|apply sS);refine Qd rfl (ai (QM9 rfl ?_ rfl) trivial) rr;show _=(d.wait++[_]).map QR;rw[ye];rfl
section
variable {R:List Bool} {n:Nat} {b:Bool} {ty:Ty} {off i j:Nat}
theorem ldR(hb:R[n]? =some b)(ha:ty.kd.agg=false)(ho:off=0+n*1):ldA ty off ((R.map D.bl).map AV.d)= .d (.bl b):=by
 subst ho;unfold ldA;rw[ha,cond_false,zr,yv,yv,show 0+n*1=n by omega,hb];rfl
theorem QTT(h:R.length=16)(ha:ty.kd.agg=true)(hz:ty.size=16):ldA ty 0 ((R.map D.bl).map AV.d)= .dg 16 (R.map D.bl):=by
 unfold ldA;rw[ha,cond_true,hz,vl,z8 (by simp[h])];unfold QE1;rw[JZ]
theorem QTU(h:R.length=16){a:List AV}(hx:a=(R.map D.bl).map AV.d)(ha:ty.kd.agg=true)(hz:ty.size=16):ldA ty 0 a= .dg 16 (R.map D.bl):=by rw[hx];exact QTT h ha hz
theorem stR(hn:n<R.length)(hi:i=0+n*1)(hj:j=i+1):((R.map D.bl).map AV.d).take i++[AV.d (.bl b)]++((R.map D.bl).map AV.d).drop j=((R.set n b).map D.bl).map AV.d:=by
 subst hi hj;rw[show 0+n*1=n by omega,Vj,Vj,ui,if_pos (by simpa using hn)];simp
end
def vN(l:List Nat):List (List D):=l.map λi:Nat=>[.it .i64 (i:Nat)]
theorem QGM(n:Nat)(l:List D):(l.map AV.d).map (AV.down1 n)=l.map AV.d:=by rw[kq];rfl
def s1(a:Nat)(i:Nat):List (Nat×AV):=[(a,.d (.it .i64 ((i+1:Nat):Nat)))]
def s2(i k:Nat):List (Nat×AV):=[(5,.d (.it .i64 ((i+1:Nat):Nat))),(6,.d (.it .i64 (k:Nat)))]
variable {R:List Bool}
theorem QTV(hb:R[k]? =some b)(ha:ty.kd.agg=false)(hj:j=k*1):ldD ty ((R.map D.bl).drop j)= .d (.bl b):=by
 subst hj;unfold ldD;rw[ha,cond_false,qp,zr,vt,x6,yv,hb];rfl
theorem QPT(h:R.length=N)(ha:ty.kd.agg=true)(hz:ty.size=N):ldA ty 0 ((R.map D.bl).map AV.d)= .dg N (R.map D.bl):=by
 unfold ldA;rw[ha,cond_true,hz,vl,z8 (by simp[h])];unfold QE1;rw[JZ]
def iR(f:Int->List UInt8)(k:Nat):List Bool:=(List.range 16).map λn:Nat=>decide (n=0)||(List.range k).any λj:Nat=>(QG f (j:Nat)).u&&decide ((QG f (j:Nat)).t=(n:Nat))
theorem QD9(f:Int->List UInt8)(k:Nat):(iR f k).length=16:=by unfold iR;rw[zb,xj]
theorem QTW{f:Int->List UInt8}{k:Nat}(h:(QG f (k:Nat)).u=false):iR f (k+1)=iR f k:=by
 unfold iR;refine jr λn _=>?_;rw[vp,ky];simp[h]
theorem QNI(f:Int->List UInt8)(k n:Nat)(h:n<(iR f k).length):(iR f k)[n]=(decide (n=0)||(List.range k).any λj:Nat=>(QG f (j:Nat)).u&&decide ((QG f (j:Nat)).t=(n:Nat))):=by
 simp only[iR,z1,x5]
theorem QRT{f:Int->List UInt8}{k:Nat}{t:Int}(h:(QG f (k:Nat)).u=true)(ht:(QG f (k:Nat)).t=t)(h0:0<=t/\t<16):iR f (k+1)=(iR f k).set t.toNat true:=by
 refine vg (by rw[v8,QD9,QD9]) λn h1 h2=>?_;have e:(List.range (k+1)).any (λj:Nat=>(QG f (j:Nat)).u&&decide ((QG f (j:Nat)).t=(n:Nat)))=((List.range k).any (λj:Nat=>(QG f (j:Nat)).u&&decide ((QG f (j:Nat)).t=(n:Nat)))||decide (t=(n:Nat))):=by
  rw[vp,ky];simp[h,ht]
 rw[ub,QNI,QNI,e];by_cases hn:t.toNat=n
 ·rw [if_pos hn,decide_eq_true (show t=((n:Nat):Int) by omega)];simp
 ·rw [if_neg hn,decide_eq_false (show¬t=((n:Nat):Int) by omega)];simp
theorem QNJ(f:Int->List UInt8):iR f 24=(List.range 16).map λn:Nat=>decide (Xd f (n:Nat)):=by
 unfold iR;refine jr λn _=>?_;rw[x8,decide_eq_true_eq,wj,decide_eq_true_eq,Wi];unfold Xd;constructor
 ·rintro (h|⟨j,hj,h⟩)
  ·exact .inl om
  ·rw [zf,decide_eq_true_eq]at h;exact .inr ⟨j,xd.1 hj,h⟩
 ·rintro (h|⟨j,hj,h1,h2⟩)
  ·exact .inl om
  ·exact .inr ⟨j,xd.2 hj,by rw[zf,decide_eq_true_eq];exact⟨h1,h2⟩⟩
def ioS(E:D)(R:List Bool)(k:Nat):S:=⟨[(0,.d E),(2,.ptr 0 0),(3,.ptr 1 0),(7,.d (.it .i64 (k:Nat)))],[(0,.cells 16 ((F16.map D.bl).map .d)),(1,.cells 16 ((R.map D.bl).map .d))],2⟩
theorem QJD(E:D)(R:List Bool)(k:Nat):(ioS E R k).ok=true:=by
 unfold ioS;simp only[S.ok,y9,xr,Ob.lt,Xh];rfl
theorem QFS(d:Option Dk)(hd:Xu d):FnC Tryz.prog 194 [.d (Qg d)] (.dg 16 ((iR (rdS d) 24).map D.bl)):=by
 have he:=λn=>YH d hd n;have hRE:=λk:Nat=>QHa (rdS d) (k:Nat);have hn:=fun{k:Nat}=> @QTW (rdS d) k;have hy:=fun{k:Nat} {t:Int}=> @QRT (rdS d) k t;have hl:=QD9 (rdS d);have h0:iR (rdS d) 0=true::List.replicate 15 false:=rfl;generalize iR (rdS d)=J at*
 generalize Qg d=E at*
 refine QJ QUl ?_;(repeat' (conv=>whnf);first|refine QA ?_|intro x hx hu|intro h|apply sS);conv=>whnf
 refine QT QB (λx:Nat×List Bool=>x.1<=24/\x.2=J x.1) (fun|(k,R)=>ioS E R k) (λx=>24-x.1) (0,true::List.replicate 15 false) ⟨z7 _,h0.symm⟩ ⟨rr,ai (Qt rfl wu) (ai (Qt rfl wu) trivial),QJD ..⟩ ?_;intro⟨k,R⟩ hk0;have hk:=hk0.1;have hR:=hk0.2;dsimp only at hk hR;have hl1:R.length=16:=by rw[hR,hl]
 by_cases hk24:k<24
 ·have hek:=he (k:Nat);have hREk:=hRE k;have hn:=hn (k:=k);have hy:=fun{t:Int}=>hy (k:=k) (t:=t);generalize QG (rdS d) (k:Nat)=x at*
  obtain⟨xu,xp,xn,xt⟩:=x;dsimp only at*
  replace hek:FnC Tryz.prog 113 [.d E,.d (.it .i64 (k:Nat))] (.dg 4 [.bl xu,.it .i64 xp,.st xn,.it .i64 xt]):=hek;cases xu with
  |false=>
   have hst:=hn rfl;(repeat' (conv=>whnf);first|refine cEk hek ?_|refine QA ?_|intro x hx hu|intro h|apply sS);refine again (k+1,R) ⟨hk24,hR.trans hst.symm⟩ (by first|omega|(dsimp only;omega)) (ai rfl (ai rfl (ai rfl (ai (QK (by first|omega|(dsimp only;omega))) trivial)))) rr (QJD ..)
  |true=>
   have hb:1<=xt/\xt<16:=by
    rcases hREk with q|q
    ·cases q.1
    ·exact ⟨q.2.2.2.1,q.2.2.2.2.1⟩
   have hst:=hy rfl rfl ⟨by omega,hb.2⟩;rw[<-hR]at hst;have htl:xt.toNat<R.length:=by omega
   (repeat' (conv=>whnf);first|refine cEk hek ?_|refine QA ?_|intro x hx hu|intro h|apply sS);refine again (k+1,R.set xt.toNat true) ⟨hk24,hst.symm⟩ (by first|omega|(dsimp only;omega)) (ai rfl (ai rfl (ai rfl (ai (QK (by first|omega|(dsimp only;omega))) trivial)))) (ai rfl (ai (Qt rfl (stR htl rfl rfl)) trivial)) (QJD ..)
 ·have h24:k=24:=by omega
  rw[h24]at hR;(repeat' (conv=>whnf);first|refine AtA.eq (QTT hl1 rfl rfl) ?_|refine QA ?_|intro x hx hu|intro h|apply sS);conv=>whnf
  generalize hv:ldA _ 0 _=v;have hv':v= .dg 16 (R.map D.bl):=by
   rw[<-hv];refine QTU hl1 ?_ rfl rfl;show []++_++List.drop (0+16) ((F16.map D.bl).map AV.d)=_;rw[xf,show List.drop (0+16) ((F16.map D.bl).map AV.d)=[]from rfl,y4]
  rw[hv'];show AV.dg 16 (R.map D.bl)=_;rw[hR]
theorem QFT(m:List (List UInt8))(hm:XL m)(k:Int):FnC Tryz.prog 141 [.d (Q9 m),.d (.it .i64 k)] (.d (.bl (decide ((QG (imS m) k).u=true/\(Qu (imS m) (QG (imS m) k).t).k≠0)))):=by
 have he:=Zc m hm k;have hi:=Zb m hm (QG (imS m) k).t;refine QJ QUU ?_;by_cases hu:(QG (imS m) k).u=false
 ·have he':Xi (QG (imS m) k)=[.bl false,.it .i64 (QG (imS m) k).p,.st (QG (imS m) k).n,.it .i64 (QG (imS m) k).t]:=by rw[Xi,hu]
  rw[he']at he;(repeat' (conv=>whnf);first|refine cEk he ?_|refine QA ?_|intro x hx hu|intro h|apply sS);refine ZW (decide_eq_false λq=>?_).symm;rw[hu]at q;cases q.1
 ·have hu':(QG (imS m) k).u=true:=by simpa using hu
  have he':Xi (QG (imS m) k)=[.bl true,.it .i64 (QG (imS m) k).p,.st (QG (imS m) k).n,.it .i64 (QG (imS m) k).t]:=by rw[Xi,hu']
  rw[he']at he;(repeat' (conv=>whnf);first|refine cEk he ?_|refine cEk hi ?_|refine QA ?_|intro x hx hu|intro h|apply sS);refine ZW ?_;show(!((Qu (imS m) (QG (imS m) k).t).k==0))=_;by_cases h0:(Qu (imS m) (QG (imS m) k).t).k=0
  ·rw [h0,decide_eq_false λq=>q.2 rfl];rfl
  ·rw [decide_eq_true ⟨hu',h0⟩,beq_eq_false_iff_ne.2 h0];rfl
theorem QEA(m:List (List UInt8))(hm:XL m)(p:Int)(s:List UInt8):FnC Tryz.prog 121 [.d (Q9 m),.d (.it .i64 p),.d (.st s)] (JT (JA (imS m) p s)):=by
 have he:=λk=>Zc m hm k;have hs:=λk=>QFT m hm k;generalize hR:JT (JA (imS m) p s)=R;have hRP:R.isP=true:=by rw[<-hR];unfold JT;split<;>rfl
 refine FnC.intro QB Tryz.func121 rfl Tryz.ntmps121 Tryz.call121 rfl (bll rfl) hRP ?_;(repeat' (conv=>whnf);first|refine QA ?_|intro x hx hu|intro h|apply sS);conv=>whnf
 refine QT QB (λk:Nat=>k<=24/\∀j:Nat,j<k->¬QAz (imS m) p s j) (λk:Nat=>⟨[(0,.d (Q9 m)),(1,.d (.it .i64 p)),(2,.d (.st s)),(8,.d (.it .i64 (k:Nat)))],[],0⟩) (λk=>24-k) 0 ⟨z7 _,λj hj=>by omega⟩ ⟨ai rfl rr,trivial,rfl⟩ ?_;intro k hk0;have k1:=hk0.1;have k2:=hk0.2;by_cases hk:k<24
 ·have hek:=he (k:Nat);have hsk:=hs (k:Nat);have next:¬QAz (imS m) p s k->∀j:Nat,j<k+1->¬QAz (imS m) p s j:=λhn j hj=>by
   rcases yj j k with hjk|hjk
   ·exact k2 j hjk
   ·obtain rfl:j=k:=by omega
    exact hn
  by_cases hst:(QG (imS m) k).u=true/\(Qu (imS m) (QG (imS m) k).t).k≠0
  ·rw [decide_eq_true hst]at hsk;(repeat' (conv=>whnf);first|refine cEk hek ?_|refine cEk hsk ?_|refine QA ?_|intro x hx hu|intro h|apply sS)
   ·rw [<-hR,QFK hk ⟨⟨hst.1,by assumption,hst.2⟩,by assumption⟩ k2];rfl
   ·refine again (k+1) ⟨by omega,next λq=>(by assumption:¬_) q.2⟩ (by dsimp only;omega) (ai rfl (ai rfl (ai rfl (ai (QK om) trivial)))) trivial rfl
   ·refine again (k+1) ⟨by omega,next λq=>(by assumption:¬_) q.1.2.1⟩ (by dsimp only;omega) (ai rfl (ai rfl (ai rfl (ai (QK om) trivial)))) trivial rfl
  ·rw [decide_eq_false hst]at hsk;(repeat' (conv=>whnf);first|refine cEk hek ?_|refine cEk hsk ?_|refine QA ?_|intro x hx hu|intro h|apply sS);refine again (k+1) ⟨by omega,next λq=>hst ⟨q.1.1,q.1.2.2⟩⟩ (by dsimp only;omega) (ai rfl (ai rfl (ai rfl (ai (QK om) trivial)))) trivial rfl
 ·have:k=24:=by omega
  subst this;(repeat' (conv=>whnf);first|refine QA ?_|intro x hx hu|intro h|apply sS);rw[<-hR,QFL k2];rfl
def XY(f:Int->List UInt8)(p:Int)(last:List UInt8)(k:Nat):Option (List UInt8):=Jc last (Z6 f p k)
theorem QNK(h:¬QEt f p k):XY f p last (k+1)=XY f p last k:=by
 unfold XY;rw[QDT h]
theorem QLj(h:QEt f p k):XY f p last (k+1)=QFN last (XY f p last k) (QG f (k:Nat)).n:=by
 unfold XY Jc;rw[QHU h,vz];rfl
theorem QNL(f:Int->List UInt8)(p:Int)(i:Nat)(hi:i<=(nms f p).length):XY f p (Zk (nms f p) i) 24=(nms f p)[i]? :=by
 refine QPC (QD0 (QGE _)) (λx=>(QAH x).trans qs) (λx hx h=>?_) i hi;have:x∈nms f p:=(QAH x).2 (qs.2 hx);have:=QMx f p x this;rw[h]at this;revert this;decide
def QEB(o:Option (List UInt8)):List UInt8:=o.getD []
theorem QNM(o:Option Nat):(JT o).isP=true:=by cases o<;>rfl
def QVE(E:D)(p:List UInt8)(ns:List (List UInt8)):Nat×Int->S|(k,n)=>⟨[(0,.d E),(1,.d (.st p)),(6,.d (.fs 1 (ns.map stL))),(8,.d (.it .i64 n)),(9,.d (.it .i64 (k:Nat)))],[],0⟩
theorem Yf(m:List (List UInt8))(hm:XL m)(p:List UInt8)(hp:p.length<=100000):FnC Tryz.prog 65 [.d (Q9 m),.d (.st p)] (QA6 (Qj (imS m) p)):=by
 have h1:=XX p hp;have h2:=λn=>Zb m hm n;have h3:=λn s=>QEA m hm n s;have h4:=λk=>Zc m hm k;unfold Qj;have hsl:=Zf p;generalize QO p=q at*
 obtain⟨ns,e⟩:=q;dsimp only at*
 generalize Q9 m=E at*
 replace h1:FnC Tryz.prog 120 [.d (.st p)] (.tup [.d (.fs 1 (ns.map stL)),.d (.it .i64 e)]):=h1;have hnl:(ns.map stL).length=ns.length:=zb ..;by_cases c1:e=0
 ·subst c1;obtain⟨R,hR⟩:∃R,lkp (imS m) ns 0=R:=⟨_,rfl⟩;rw[if_pos rfl,hR];refine QJ i65 ?_;(repeat' (conv=>whnf);first|refine cEk h1 ?_|refine gOI ?_|intro x hx hu|intro h|apply sS);conv=>whnf
  refine QT QB (lkI (imS m) ns R) (QVE E p ns) (λx=>ns.length-x.1) (0,0) ⟨z7 _,hR⟩ ⟨rr,trivial,rfl⟩ ?_;intro⟨k,n⟩ ⟨hk,hr⟩;dsimp only at hk hr;by_cases hkl:k<ns.length
  ·obtain ⟨s,hs⟩:=Qo hkl;have hdr:ns.drop k=s::ns.drop (k+1):=by
    obtain⟨hk',e⟩:=z6.1 hs;rw[vj hk',e]
   rw[hdr]at hr;have e2:=h2 n;have e3:=h3 n s;have e4:=h4;unfold lkp QAF at hr;generalize Qu (imS m) n=x at*
   obtain⟨kk,z,b0,b1,b2,b3⟩:=x;dsimp only at*
   replace e2:FnC Tryz.prog 86 [.d E,.d (.it .i64 n)] (.dg 6 [.it .i64 kk,.it .i64 z,.it .i64 b0,.it .i64 b1,.it .i64 b2,.it .i64 b3]):=e2;by_cases c2:kk=2
   ·subst c2;rw[if_pos rfl]at hr;cases hf:JA (imS m) n s with
    |none=>
     rw[hf]at e3 hr;replace hr:((0:Int),(4:Int))=R:=hr;replace e3:FnC Tryz.prog 121 [.d E,.d (.it .i64 n),.d (.st s)] (.tup [.d (.it .i64 0),.d (.bl false)]):=e3;(repeat' (conv=>whnf);first|refine cEk e2 ?_|refine cEk e3 ?_|with_reducible refine Qk hs ?_|refine gOI ?_|intro x hx hu|intro h|apply sS);exact congrArg QA6 hr
    |some q=>
     rw[hf]at e3 hr;rw[if_pos rfl]at hr;replace hr:lkp (imS m) (ns.drop (k+1)) (QG (imS m) (q:Nat)).t=R:=hr;replace e3:FnC Tryz.prog 121 [.d E,.d (.it .i64 n),.d (.st s)] (.tup [.d (.it .i64 (q:Nat)),.d (.bl true)]):=e3;have e4:=e4 (q:Nat);generalize QG (imS m) (q:Nat)=y at*
     obtain⟨yu,yp,yn,yt⟩:=y;replace e4:FnC Tryz.prog 85 [.d E,.d (.it .i64 (q:Nat))] (.dg 4 [.bl yu,.it .i64 yp,.st yn,.it .i64 yt]):=e4;(repeat' (conv=>whnf);first|refine cEk e2 ?_|refine cEk e3 ?_|refine cEk e4 ?_|with_reducible refine Qk hs ?_|refine gOI ?_|intro x hx hu|intro h|apply sS);refine again (k+1,yt) ⟨hkl,hr⟩ (by first|omega|(dsimp only;omega)) (ai rfl (ai rfl (ai rfl (ai rfl (ai (QK (by first|omega|(dsimp only;omega))) trivial))))) trivial rfl
   ·rw [if_neg c2]at hr;replace hr:((0:Int),(6:Int))=R:=hr;(repeat' (conv=>whnf);first|refine cEk e2 ?_|with_reducible refine Qk hs ?_|refine gOI ?_|intro x hx hu|intro h|apply sS);exact congrArg QA6 hr
  ·rw [vh om]at hr;(repeat' (conv=>whnf);first|refine QA ?_|intro x hx hu|intro h|apply sS);exact congrArg QA6 hr
 ·rw [if_neg c1];refine QJ i65 ?_;(repeat' (conv=>whnf);first|refine cEk h1 ?_|refine gOI ?_|intro x hx hu|intro h|apply sS);rfl
theorem QFU{P:Nat->Prop}{hP:∀j,Decidable (P j)}(hk:k<n)(h:P k)(hn:∀j:Nat,j<k->¬P j):((List.range n).find? λj=> @decide (P j) (hP j))=some k:=by
 refine kw.2 ⟨decide_eq_true h,k,by simpa using hk,by simp,λj hj=>?_⟩;simp only[x5];simpa using hn j hj
theorem QFV{P:Nat->Prop}{hP:∀j,Decidable (P j)}(hn:∀j:Nat,j<n->¬P j):((List.range n).find? λj=> @decide (P j) (hP j))=none:=by
 rw[qq];intro j hj;simpa using hn j (xd.1 hj)
def r1A(E:D)(k:Nat):S:=⟨[(0,.d E),(4,.d (.it .i64 (k:Nat)))],[],0⟩
theorem QPU(m:List (List UInt8))(hm:XL m):FnC Tryz.prog 76 [.d (Q9 m)] (JT (frI (imS m))):=by
 have h1:=λn=>QCv m hm n;have hs:=fun{k:Nat} (hk:k<16) (h:¬Xd (imS m) (k:Nat)) (hn:∀j:Nat,j<k->¬¬Xd (imS m) (j:Nat))=>show frI (imS m)=some k from QFU hk h hn
 have hz:=fun(hn:∀j:Nat,j<16->¬¬Xd (imS m) (j:Nat))=>show frI (imS m)=none from QFV hn
 generalize frI (imS m)=r at*
 generalize Q9 m=E at*
 refine QJ i76 ?_ (QNM _);(repeat' (conv=>whnf);first|refine QA ?_|intro x hx hu|intro h|apply sS);conv=>whnf
 refine QT QB (λk:Nat=>k<=16/\∀j:Nat,j<k->¬¬Xd (imS m) (j:Nat)) (r1A E) (λk=>16-k) 0 ⟨z7 _,λj hj=>by omega⟩ ⟨rr,trivial,rfl⟩ ?_;intro k hk0;have hk:=hk0.1;have hno:=hk0.2;by_cases hk16:k<16
 ·have e1:=h1 (k:Nat);by_cases ht:Xd (imS m) (k:Nat)
  ·rw [decide_eq_true ht]at e1;(repeat' (conv=>whnf);first|refine cEk e1 ?_|refine QA ?_|intro x hx hu|intro h|apply sS);refine again (k+1) ⟨hk16,λj hj=>?_⟩ (by first|omega|(dsimp only;omega)) (ai rfl (ai (QK om) trivial)) trivial rfl;rcases yj j k with h|h
   ·exact hno j h
   ·rw [show j=k by omega];exact λx=>x ht
  ·rw [decide_eq_false ht]at e1;have hth:=hs hk16 ht hno;(repeat' (conv=>whnf);first|refine cEk e1 ?_|refine QA ?_|intro x hx hu|intro h|apply sS);exact(congrArg JT hth).symm
 ·have hth:=hz λj hj=>hno j om;(repeat' (conv=>whnf);first|refine QA ?_|intro x hx hu|intro h|apply sS);exact(congrArg JT hth).symm
theorem QHm(m:List (List UInt8))(hm:XL m):FnC Tryz.prog 77 [.d (Q9 m)] (JT (frE (imS m))):=by
 have h1:=λn=>Zc m hm n;have hs:=fun{k:Nat} (hk:k<24) (h:(QG (imS m) (k:Nat)).u=false) (hn:∀j:Nat,j<k->¬(QG (imS m) (j:Nat)).u=false)=>show frE (imS m)=some k from QFU hk h hn
 have hz:=fun(hn:∀j:Nat,j<24->¬(QG (imS m) (j:Nat)).u=false)=>show frE (imS m)=none from QFV hn
 generalize frE (imS m)=r at*
 generalize Q9 m=E at*
 refine QJ i77 ?_ (QNM _);(repeat' (conv=>whnf);first|refine QA ?_|intro x hx hu|intro h|apply sS);conv=>whnf
 refine QT QB (λk:Nat=>k<=24/\∀j:Nat,j<k->¬(QG (imS m) (j:Nat)).u=false) (r1A E) (λk=>24-k) 0 ⟨z7 _,λj hj=>by omega⟩ ⟨rr,trivial,rfl⟩ ?_;intro k hk0;have hk:=hk0.1;have hno:=hk0.2;by_cases hk24:k<24
 ·have e1:=h1 (k:Nat);have hs:=λh=>hs hk24 h hno;have hn':∀j:Nat,j<k+1->j=k\/¬(QG (imS m) (j:Nat)).u=false:=λj hj=>by
   rcases yj j k with h|h
   ·exact .inr (hno j h)
   ·exact .inl om
  have hu:(QG (imS m) (k:Nat)).u=false\/(QG (imS m) (k:Nat)).u=true:=by cases (QG (imS m) (k:Nat)).u<;>simp
  have hup:∀u,(QG (imS m) (k:Nat)).u=u->u=true->∀j:Nat,j<k+1->¬(QG (imS m) (j:Nat)).u=false:=λu h1 h2 j hj=>by
   rcases hn' j hj with rfl|h
   ·rw [h1,h2];simp
   ·exact h
  have hup:=λh=>hup _ rfl h;generalize QG (imS m) (k:Nat)=x at e1 hs hu hup;obtain⟨xu,xp,xn,xt⟩:=x;dsimp only at e1 hs hu hup;replace e1:FnC Tryz.prog 85 [.d E,.d (.it .i64 (k:Nat))] (.dg 4 [.bl xu,.it .i64 xp,.st xn,.it .i64 xt]):=e1;cases xu with
  |false=>
   have hth:=hs rfl;(repeat' (conv=>whnf);first|refine cEk e1 ?_|refine QA ?_|intro x hx hu|intro h|apply sS);exact(congrArg JT hth).symm
  |true=>
   have hth:=hup rfl;(repeat' (conv=>whnf);first|refine cEk e1 ?_|refine QA ?_|intro x hx hu|intro h|apply sS);exact again (k+1) ⟨hk24,hth⟩ (by first|omega|(dsimp only;omega)) (ai rfl (ai (QK om) trivial)) trivial rfl
 ·have hth:=hz λj hj=>hno j om;(repeat' (conv=>whnf);first|refine QA ?_|intro x hx hu|intro h|apply sS);exact(congrArg JT hth).symm
def FL(mk:Nat->Bool)(low i:Nat):List Nat:=(List.range' low (i-low)).filter λj=> !(mk j)
theorem QBs{mk:Nat->Bool}{low i:Nat}(h:low<=i):FL mk low (i+1)=FL mk low i++if mk i=true then []else [i]:=by
 unfold FL;rw[show i+1-low=(i-low)+1 by omega,List.range'_concat,vr,j9,show low+(i-low)=i by omega];congr 1;cases h:mk i<;>simp[h]
theorem QNN{mk:Nat->Bool}{low i:Nat}(h:low<=i):∀j,∃t,FL mk low (i+j)=FL mk low i++t
 |0=>⟨[],by simp⟩
 |j+1=>by
  obtain⟨t,ht⟩:=QNN h j;rw[<-wl,QBs om,ht,x4];exact⟨_,rfl⟩
theorem QDX{mk:Nat->Bool}{low i all n:Nat}(h:low<=i)(ha:i<=all)(hn:n<=(FL mk low i).length):(FL mk low i).take n=(FL mk low all).take n:=by
 obtain⟨t,ht⟩:=QNN (mk:=mk) h (all-i);rw[show i+(all-i)=all by omega]at ht;rw[ht,ua hn]
theorem QGN(mk:Nat->Bool)(low i:Nat):(FL mk low i).length<=i-low:=by
 unfold FL;refine xy (u9 _ _) ?_;rw[List.length_range'];exact zt _
theorem okC{m:Nat}(h:k<m):([(k,Ob.cells N (l.map .d))].all λp=>Nat.blt p.1 m&&p.2.lt m&&p.2.pl)=true:=by
 simp only[y9,xr,Ob.lt,Ob.pl,Xh,wh];simp[h]
theorem ntC{st:List Nat}:([(k,Ob.cells N (l.map .d))].all λp=>p.2.nt st p.1)=true:=by
 simp[Ob.nt,AV.nt1,AV.nt0]
def fiA(f:Nat)(low all n:Nat)(N:Nat)(R:List Bool)(T:Nat->Nat)(i:Nat)(l:List Nat):S:=⟨[(0,.d (.it .i64 (low:Nat))),(1,.d (.it .i64 (all:Nat))),(2,.d (.it .i64 (n:Nat))),(3,.fn (.func f) [] [.ptr 0 0]),(9,.ts 1 (vN l) 4),(10,.d (.it .i64 (i:Nat)))],(0,.cells N ((R.map D.bl).map .d))::(4,.tail 3 true)::Qr 1 [0] T,5⟩
theorem QCW(f:Nat)(low all n:Nat)(N:Nat)(R:List Bool)(T:Nat->Nat)(i:Nat)(l:List Nat):(fiA f low all n N R T i l).ok=true:=by
 unfold fiA;simp only[S.ok,y9,xr,Ob.lt,Xh];rfl
theorem QGO(l:List (List D))(N:Nat)(R:List Bool)(T:Nat->Nat):(S.mk [(8,.d (.fs 1 l))] ((0,.cells N ((R.map D.bl).map .d))::Qr 1 [0] T) 5).ok=true:=by
 simp only[S.ok,y9,xr,Ob.lt,Xh];rfl
theorem QLk(R:List Bool)(hR:R.length=16)(low all n:Nat)(ha:all<=16)(hn:n<=1000)(hla:low<=all):
  FnH Tryz.prog 196 [.d (.it .i64 (low:Nat)),.d (.it .i64 (all:Nat)),.d (.it .i64 (n:Nat)),.fn (.func 197) [] [.ptr 0 0]] [(0,.cells 16 ((R.map D.bl).map .d))] 1 [0] (.d (.fs 1 (vN ((FL (λj=>R.getD j false) low all).take n)))) [(0,.cells 16 ((R.map D.bl).map .d))] 1:=by
 have hs:=fun{i:Nat}=> @QBs (λj=>R.getD j false) low i;have ht:=fun{i:Nat}=> @QDX (λj=>R.getD j false) low i all n;have hfl:=QGN (λj=>R.getD j false) low;have h0:FL (λj=>R.getD j false) low low=[]:=by unfold FL;rw[jx];rfl
 generalize FL (λj=>R.getD j false) low=F at*
 refine FnH.intro QB Tryz.func196 rfl Tryz.ntmps196 Tryz.call196 rfl (okC (by decide)) (okC (by decide)) (by decide) rfl rfl ntC rfl rfl (λT=>?_);(repeat' (conv=>whnf);first|refine QA ?_|intro x hx hu|intro h|apply sS);conv=>whnf
 refine Ql QB (λx:Nat×List Nat=>low<=x.1/\x.1<=all/\x.2=(F x.1).take n) (fun|(i,l)=>fiA 197 low all n 16 R T i l) (λx=>all-x.1) (low,[]) ⟨zt _,hla,by rw[h0,qc]⟩ (Wk.en ⟨rr,rr,QCW ..⟩) ?_;intro⟨i,l⟩ hi0;have hi1:=hi0.1;have hi2:=hi0.2.1;have hil:=hi0.2.2;dsimp only at hi1 hi2 hil;have hll:(vN l).length=l.length:=zb ..;have hfi:=hfl i;have hl2:l.length<=n/\l.length<=(F i).length:=by rw[hil,zy];omega
 have hst:n<=l.length\/¬i<all->l=(F all).take n:=λh=>by
  rcases h with h|h
  ·rw [hil,ht hi1 hi2 om]
  ·rw [hil,show i=all by omega]
 have hgo:l.length<n->l=F i:=λh=>by
  rw[hil,zy]at h;rw[hil,z8 om]
 have hsu:=hs hi1;have hres:l=(F all).take n->AV.d (.fs 1 (vN l))=AV.d (.fs 1 (vN ((F all).take n))):=λh=>by rw[h]
 by_cases hia:i<all
 ·obtain ⟨r,hr⟩:=Qo (l:=R) (k:=i) om;have hrd:R.getD i false=r:=by rw[zr,hr];rfl
  rw[hrd]at hsu;by_cases hln:l.length<n
  ·have hlF:=hgo hln;cases r with
   |true=>
    rw[if_pos rfl,y4]at hsu;(repeat' (conv=>whnf);first|refine AtA.eq (ldR hr rfl rfl) ?_|refine cI QS0 ?_|refine gOI ?_|intro x hx hu|intro h|apply sS);all_goals try omega
    exact⟨(i+1,l),⟨by omega,hia,by rw[hsu,<-hlF,z8 om]⟩,by first|omega|(dsimp only;omega),Wk.en ⟨ai rfl (ai rfl (ai rfl (ai rfl (ai rfl (ai (QK om) trivial))))),rr,QCW ..⟩⟩
   |false=>
    rw[if_neg (by simp)]at hsu;(repeat' (conv=>whnf);first|refine AtA.eq (ldR hr rfl rfl) ?_|refine cI QS0 ?_|refine gOI ?_|intro x hx hu|intro h|apply sS);all_goals try omega
    refine⟨(i+1,l++[i]),⟨by omega,hia,by rw[hsu,<-hlF,z8 (by rw[zu,xc];omega)]⟩,by first|omega|(dsimp only;omega),Wk.en ⟨ai rfl (ai rfl (ai rfl (ai rfl (ai (QFu ?_) (ai (QK om) trivial))))),ai (Qt rfl (QGM ..)) rr,QCW ..⟩⟩;show _=vN (l++[i]);unfold vN;rw[ye];rfl
  ·have hth:=hst (.inl om);(repeat' (conv=>whnf);first|refine QA ?_|intro x hx hu|intro h|apply sS);all_goals try omega
   conv=>whnf
   exact⟨⟨[(8,.d (.fs 1 (vN l)))],(0,.cells 16 ((R.map D.bl).map .d))::Qr 1 [0] T,5⟩,Wk.vwL (ai (Vw.ts' rfl) trivial) (ai (VwO.same _) (ai (VwO.same _) (ai (VwO.same _) trivial))) (QGO ..),hres hth,rr,rr⟩
 ·have hth:=hst (.inr hia);(repeat' (conv=>whnf);first|refine QA ?_|intro x hx hu|intro h|apply sS);all_goals try omega
  conv=>whnf
  exact⟨⟨[(8,.d (.fs 1 (vN l)))],(0,.cells 16 ((R.map D.bl).map .d))::Qr 1 [0] T,5⟩,Wk.vwL (ai (Vw.ts' rfl) trivial) (ai (VwO.same _) (ai (VwO.same _) (ai (VwO.same _) trivial))) (QGO ..),hres hth,rr,rr⟩
theorem QLl(R:List Bool)(hR:R.length=25)(low all n:Nat)(ha:all<=25)(hn:n<=1000)(hla:low<=all):
  FnH Tryz.prog 196 [.d (.it .i64 (low:Nat)),.d (.it .i64 (all:Nat)),.d (.it .i64 (n:Nat)),.fn (.func 200) [] [.ptr 0 0]] [(0,.cells 25 ((R.map D.bl).map .d))] 1 [0] (.d (.fs 1 (vN ((FL (λj=>R.getD j false) low all).take n)))) [(0,.cells 25 ((R.map D.bl).map .d))] 1:=by
 have hs:=fun{i:Nat}=> @QBs (λj=>R.getD j false) low i;have ht:=fun{i:Nat}=> @QDX (λj=>R.getD j false) low i all n;have hfl:=QGN (λj=>R.getD j false) low;have h0:FL (λj=>R.getD j false) low low=[]:=by unfold FL;rw[jx];rfl
 generalize FL (λj=>R.getD j false) low=F at*
 refine FnH.intro QB Tryz.func196 rfl Tryz.ntmps196 Tryz.call196 rfl (okC (by decide)) (okC (by decide)) (by decide) rfl rfl ntC rfl rfl (λT=>?_);(repeat' (conv=>whnf);first|refine QA ?_|intro x hx hu|intro h|apply sS);conv=>whnf
 refine Ql QB (λx:Nat×List Nat=>low<=x.1/\x.1<=all/\x.2=(F x.1).take n) (fun|(i,l)=>fiA 200 low all n 25 R T i l) (λx=>all-x.1) (low,[]) ⟨zt _,hla,by rw[h0,qc]⟩ (Wk.en ⟨rr,rr,QCW ..⟩) ?_;intro⟨i,l⟩ hi0;have hi1:=hi0.1;have hi2:=hi0.2.1;have hil:=hi0.2.2;dsimp only at hi1 hi2 hil;have hll:(vN l).length=l.length:=zb ..;have hfi:=hfl i;have hl2:l.length<=n/\l.length<=(F i).length:=by rw[hil,zy];omega
 have hst:n<=l.length\/¬i<all->l=(F all).take n:=λh=>by
  rcases h with h|h
  ·rw [hil,ht hi1 hi2 om]
  ·rw [hil,show i=all by omega]
 have hgo:l.length<n->l=F i:=λh=>by
  rw[hil,zy]at h;rw[hil,z8 om]
 have hsu:=hs hi1;have hres:l=(F all).take n->AV.d (.fs 1 (vN l))=AV.d (.fs 1 (vN ((F all).take n))):=λh=>by rw[h]
 by_cases hia:i<all
 ·obtain ⟨r,hr⟩:=Qo (l:=R) (k:=i) om;have hrd:R.getD i false=r:=by rw[zr,hr];rfl
  rw[hrd]at hsu;by_cases hln:l.length<n
  ·have hlF:=hgo hln;cases r with
   |true=>
    rw[if_pos rfl,y4]at hsu;(repeat' (conv=>whnf);first|refine AtA.eq (ldR hr rfl rfl) ?_|refine cI QS2 ?_|refine gOI ?_|intro x hx hu|intro h|apply sS);all_goals try omega
    exact⟨(i+1,l),⟨by omega,hia,by rw[hsu,<-hlF,z8 om]⟩,by first|omega|(dsimp only;omega),Wk.en ⟨ai rfl (ai rfl (ai rfl (ai rfl (ai rfl (ai (QK om) trivial))))),rr,QCW ..⟩⟩
   |false=>
    rw[if_neg (by simp)]at hsu;(repeat' (conv=>whnf);first|refine AtA.eq (ldR hr rfl rfl) ?_|refine cI QS2 ?_|refine gOI ?_|intro x hx hu|intro h|apply sS);all_goals try omega
    refine⟨(i+1,l++[i]),⟨by omega,hia,by rw[hsu,<-hlF,z8 (by rw[zu,xc];omega)]⟩,by first|omega|(dsimp only;omega),Wk.en ⟨ai rfl (ai rfl (ai rfl (ai rfl (ai (QFu ?_) (ai (QK om) trivial))))),ai (Qt rfl (QGM ..)) rr,QCW ..⟩⟩;show _=vN (l++[i]);unfold vN;rw[ye];rfl
  ·have hth:=hst (.inl om);(repeat' (conv=>whnf);first|refine QA ?_|intro x hx hu|intro h|apply sS);all_goals try omega
   conv=>whnf
   exact⟨⟨[(8,.d (.fs 1 (vN l)))],(0,.cells 25 ((R.map D.bl).map .d))::Qr 1 [0] T,5⟩,Wk.vwL (ai (Vw.ts' rfl) trivial) (ai (VwO.same _) (ai (VwO.same _) (ai (VwO.same _) trivial))) (QGO ..),hres hth,rr,rr⟩
 ·have hth:=hst (.inr hia);(repeat' (conv=>whnf);first|refine QA ?_|intro x hx hu|intro h|apply sS);all_goals try omega
  conv=>whnf
  exact⟨⟨[(8,.d (.fs 1 (vN l)))],(0,.cells 25 ((R.map D.bl).map .d))::Qr 1 [0] T,5⟩,Wk.vwL (ai (Vw.ts' rfl) trivial) (ai (VwO.same _) (ai (VwO.same _) (ai (VwO.same _) trivial))) (QGO ..),hres hth,rr,rr⟩
def fiS(f:Nat)(low all n:Nat)(E:D)(T:Nat->Nat)(i:Nat)(l:List Nat):S:=⟨[(0,.d (.it .i64 (low:Nat))),(1,.d (.it .i64 (all:Nat))),(2,.d (.it .i64 (n:Nat))),(3,.fn (.func f) [] [.ptr 0 0]),(9,.ts 1 (vN l) 4),(10,.d (.it .i64 (i:Nat)))],(0,.cells 1 [.d E])::(4,.tail 3 true)::Qr 1 [0] T,5⟩
theorem QLm(d:Option Dk)(hd:Xu d)(low all n:Nat)(ha:all<=24)(hn:n<=1000)(hla:low<=all):
  FnH Tryz.prog 196 [.d (.it .i64 (low:Nat)),.d (.it .i64 (all:Nat)),.d (.it .i64 (n:Nat)),.fn (.func 198) [] [.ptr 0 0]] [(0,.cells 1 [.d (Qg d)])] 1 [0] (.d (.fs 1 (vN ((FL (λj:Nat=>(QG (rdS d) (j:Nat)).u) low all).take n)))) [(0,.cells 1 [.d (Qg d)])] 1:=by
 have hs:=fun{i:Nat}=> @QBs (λj:Nat=>(QG (rdS d) (j:Nat)).u) low i;have ht:=fun{i:Nat}=> @QDX (λj:Nat=>(QG (rdS d) (j:Nat)).u) low i all n;have hfl:=QGN (λj:Nat=>(QG (rdS d) (j:Nat)).u) low;have h0:FL (λj:Nat=>(QG (rdS d) (j:Nat)).u) low low=[]:=by unfold FL;rw[jx];rfl
 generalize FL (λj:Nat=>(QG (rdS d) (j:Nat)).u) low=F at*
 refine QL QUm λT=>?_;(repeat' (conv=>whnf);first|refine QA ?_|intro x hx hu|intro h|apply sS);conv=>whnf
 refine Ql QB (λx:Nat×List Nat=>low<=x.1/\x.1<=all/\x.2=(F x.1).take n) (fun|(i,l)=>fiS 198 low all n (Qg d) T i l) (λx=>all-x.1) (low,[]) ⟨zt _,hla,by rw[h0,qc]⟩ Wk.e ?_;intro⟨i,l⟩ hi0;have hi1:=hi0.1;have hi2:=hi0.2.1;have hil:=hi0.2.2;dsimp only at hi1 hi2 hil;have hll:(vN l).length=l.length:=zb ..;have hfi:=hfl i;have hl2:l.length<=n/\l.length<=(F i).length:=by rw[hil,zy];omega
 have hst:n<=l.length\/¬i<all->l=(F all).take n:=λh=>by
  rcases h with h|h
  ·rw [hil,ht hi1 hi2 om]
  ·rw [hil,show i=all by omega]
 have hgo:l.length<n->l=F i:=λh=>by
  rw[hil,zy]at h;rw[hil,z8 om]
 have hsu:=hs hi1;have hres:l=(F all).take n->AV.d (.fs 1 (vN l))=AV.d (.fs 1 (vN ((F all).take n))):=λh=>by rw[h]
 by_cases hia:i<all
 ·have he:=YH d hd (i:Nat);generalize QG (rdS d) (i:Nat)=x at*
  obtain⟨r,xp,xn,xt⟩:=x;dsimp only at*
  replace he:FnC Tryz.prog 113 [.d (Qg d),.d (.it .i64 (i:Nat))] (.dg 4 [.bl r,.it .i64 xp,.st xn,.it .i64 xt]):=he;by_cases hln:l.length<n
  ·have hlF:=hgo hln;cases r with
   |true=>
    rw[if_pos rfl,y4]at hsu;(repeat' (conv=>whnf);first|refine cEk he ?_|refine cI QS1 ?_|refine gOI ?_|intro x hx hu|intro h|apply sS);all_goals try omega
    exact⟨(i+1,l),⟨by omega,hia,by rw[hsu,<-hlF,z8 om]⟩,by first|omega|(dsimp only;omega),Wk.en ⟨ai rfl (ai rfl (ai rfl (ai rfl (ai rfl (ai (QK om) trivial))))),rr,rfl⟩⟩
   |false=>
    rw[if_neg (by simp)]at hsu;(repeat' (conv=>whnf);first|refine cEk he ?_|refine cI QS1 ?_|refine gOI ?_|intro x hx hu|intro h|apply sS);all_goals try omega
    refine⟨(i+1,l++[i]),⟨by omega,hia,by rw[hsu,<-hlF,z8 (by rw[zu,xc];omega)]⟩,by first|omega|(dsimp only;omega),Wk.en ⟨ai rfl (ai rfl (ai rfl (ai rfl (ai (QFu ?_) (ai (QK om) trivial))))),rr,rfl⟩⟩;show _=vN (l++[i]);unfold vN;rw[ye];rfl
  ·have hth:=hst (.inl om);(repeat' (conv=>whnf);first|refine QA ?_|intro x hx hu|intro h|apply sS);all_goals try omega
   conv=>whnf
   exact⟨⟨[(8,.d (.fs 1 (vN l)))],(0,.cells 1 [.d (Qg d)])::Qr 1 [0] T,5⟩,Wk.vwL (ai (Vw.ts' rfl) trivial) (ai (VwO.same _) (ai (VwO.same _) (ai (VwO.same _) trivial))) (rfl),hres hth,rr,rr⟩
 ·have hth:=hst (.inr hia);(repeat' (conv=>whnf);first|refine QA ?_|intro x hx hu|intro h|apply sS);all_goals try omega
  conv=>whnf
  exact⟨⟨[(8,.d (.fs 1 (vN l)))],(0,.cells 1 [.d (Qg d)])::Qr 1 [0] T,5⟩,Wk.vwL (ai (Vw.ts' rfl) trivial) (ai (VwO.same _) (ai (VwO.same _) (ai (VwO.same _) trivial))) (rfl),hres hth,rr,rr⟩
theorem QGP(φ:Nat->Nat)(l:List D):(l.map AV.d).map (AV.ren1 φ)=l.map AV.d:=by rw[kq];rfl
theorem QHn(n:Nat):List.range' 0 n=List.range n:=List.range_eq_range'.symm
theorem QBI{α:Type}{p q:α->Bool}:∀ {l:List α},(∀x∈l,p x=q x)->l.find? p=l.find? q
 |[],_=>rfl
 |x::t,h=>by
  rw[Wy,Wy,h x zo,QBI λy hy=>h y (zk _ hy)]
theorem QRU(f:Int->List UInt8):frI f=(FL (λj=>(iR f 24).getD j false) 0 16).head? :=by
 unfold FL frI;rw[List.head?_filter,qk,QHn];refine QBI λj hj=>?_;have h16:=xd.1 hj;have e:(iR f 24).getD j false=decide (Xd f (j:Nat)):=by
  rw[QNJ,zr,yv,js h16];rfl
 show decide (¬Xd f (j:Nat))= !((iR f 24).getD j false);rw[e];show decide (¬Xd f (j:Nat))= !(decide (Xd f (j:Nat)));by_cases h:Xd f (j:Nat)
 ·rw [decide_eq_true h,decide_eq_false (λx=>x h)];rfl
 ·rw [decide_eq_false h,decide_eq_true h];rfl
theorem QRV(f:Int->List UInt8):frE f=(FL (λj:Nat=>(QG f (j:Nat)).u) 0 24).head? :=by
 unfold FL frE;rw[List.head?_filter,qk,QHn];refine QBI λj hj=>?_;show decide ((QG f (j:Nat)).u=false)= !((QG f (j:Nat)).u);cases (QG f (j:Nat)).u<;>rfl
theorem QPV(d:Dk)(hd:Xu (some d)):FnC Tryz.prog 156 [.d (Qg (some d))] (JT (frI (rdS (some d)))):=by
 have hi:=QFS (some d) hd;have hF:=QLk (iR (rdS (some d)) 24) (QD9 _ _) 0 16 1 (by decide) (by decide) (by decide);rw[QRU];generalize FL (λj=>(iR (rdS (some d)) 24).getD j false) 0 16=l at*
 generalize iR (rdS (some d)) 24=J at*
 generalize Qg (some d)=E at*
 cases l with
 |nil=>
  replace hF:FnH Tryz.prog 196 [.d (.it .i64 0),.d (.it .i64 16),.d (.it .i64 1),.fn (.func 197) [] [.ptr 0 0]] [(0,.cells 16 ((J.map D.bl).map .d))] 1 [0] (.d (.fs 1 [])) [(0,.cells 16 ((J.map D.bl).map .d))] 1:=hF;refine QJ QSs ?_;(repeat' (conv=>whnf);first|refine cEk hi ?_|refine CallI.byH hF [0] wu ⟨rfl,by decide,by with_unfolding_all exact rfl⟩ (ai (Qt rfl (by show []++_++[]=_;rw[xf,y4];exact(QGP _ _).symm)) trivial) rfl rfl ?_|refine cI QOq ?_|refine gOI ?_|intro x hx hu|intro h|apply sS);rfl
 |cons n t=>
  replace hF:FnH Tryz.prog 196 [.d (.it .i64 0),.d (.it .i64 16),.d (.it .i64 1),.fn (.func 197) [] [.ptr 0 0]] [(0,.cells 16 ((J.map D.bl).map .d))] 1 [0] (.d (.fs 1 [[.it .i64 (n:Nat)]])) [(0,.cells 16 ((J.map D.bl).map .d))] 1:=hF;refine QJ QSs ?_;(repeat' (conv=>whnf);first|refine cEk hi ?_|refine CallI.byH hF [0] wu ⟨rfl,by decide,by with_unfolding_all exact rfl⟩ (ai (Qt rfl (by show []++_++[]=_;rw[xf,y4];exact(QGP _ _).symm)) trivial) rfl rfl ?_|refine cI QOq ?_|refine gOI ?_|intro x hx hu|intro h|apply sS);rfl
theorem QHo(d:Dk)(hd:Xu (some d)):FnC Tryz.prog 157 [.d (Qg (some d))] (JT (frE (rdS (some d)))):=by
 have hF:=QLm (some d) hd 0 24 1 (by decide) (by decide) (by decide);rw[QRV];generalize FL (λj:Nat=>(QG (rdS (some d)) (j:Nat)).u) 0 24=l at*
 generalize Qg (some d)=E at*
 cases l with
 |nil=>
  replace hF:FnH Tryz.prog 196 [.d (.it .i64 0),.d (.it .i64 24),.d (.it .i64 1),.fn (.func 198) [] [.ptr 0 0]] [(0,.cells 1 [.d E])] 1 [0] (.d (.fs 1 [])) [(0,.cells 1 [.d E])] 1:=hF;refine QJ QSt ?_;(repeat' (conv=>whnf);first|refine CallI.h hF [0] ?_|refine cI QOq ?_|refine gOI ?_|intro x hx hu|intro h|apply sS);rfl
 |cons n t=>
  replace hF:FnH Tryz.prog 196 [.d (.it .i64 0),.d (.it .i64 24),.d (.it .i64 1),.fn (.func 198) [] [.ptr 0 0]] [(0,.cells 1 [.d E])] 1 [0] (.d (.fs 1 [[.it .i64 (n:Nat)]])) [(0,.cells 1 [.d E])] 1:=hF;refine QJ QSt ?_;(repeat' (conv=>whnf);first|refine CallI.h hF [0] ?_|refine cI QOq ?_|refine gOI ?_|intro x hx hu|intro h|apply sS);rfl
theorem ZA{e:Int}(h:e≠0):runP bad d (e,[])=(d,e):=if_pos h
theorem Z8(bad:List Int)(d:Dk)(l:List Stp):runP bad d (0,l)=Q4 bad d l:=if_neg (by simp)
theorem QJE(h:frI f=some n):n<16:=by
 have:=km h;exact xd.1 this
theorem QCX(h:frE f=some n):n<24:=by
 have:=km h;exact xd.1 this
theorem QKW(h:Fd bad d N)(p:List UInt8)(hp:p.length<=100000)(kind:Int):
  FnH Tryz.prog 102 [.ptr 5 0,.d (.st p),.d (.it .i64 kind)] (Qa b bad d) 6 [0,5] (.d (.it .i64 (runP bad d (mkP (rdS (some d)) p kind)).2)) (Qa b bad (runP bad d (mkP (rdS (some d)) p kind)).1) 6:=by
 have hP:=QD6 d h.ok p hp;have hI:=QPV d h.ok;have hK:=QHo d h.ok;have hfi:=λn=>QJE (f:=rdS (some d)) (n:=n);have hfe:=λn=>QCX (f:=rdS (some d)) (n:=n);unfold mkP mkQ;generalize ZS (rdS (some d)) p=a at*
 generalize frI (rdS (some d))=oi at*
 generalize frE (rdS (some d))=oe at*
 obtain⟨⟨fo,nm,k⟩,e⟩:=a;have hS:=JM ⟨fo,nm,k⟩;dsimp only;replace hP:FnC Tryz.prog 144 [.d (.fp 1 [Qg (some d)]),.d (.st p)] (.tup [.dg 3 [.it .i64 fo,.st nm,.it .i64 k],.d (.it .i64 e)]):=hP;replace hS:FnC Tryz.prog 146 [.dg 3 [.it .i64 fo,.st nm,.it .i64 k]] (.d (.bl (decide (0<=k)))):=hS;by_cases c1:e=0
 ·subst c1;rw[if_neg (by simp)];by_cases c2:0<=k
  ·rw [if_pos c2,ZA (by decide)];rw[decide_eq_true c2]at hS;refine QL QLT λT=>?_;(repeat' (conv=>whnf);first|refine cEk hS ?_|refine cI i50 ?_|refine rFk hP ?_|refine gOI ?_|intro x hx hu|intro h|apply sS);exact QH
  ·rw [if_neg c2];rw[decide_eq_false c2]at hS;cases oi with
   |none=>
    show FnH _ _ _ _ _ _ (.d (.it .i64 (runP bad d (2,[])).2)) (Qa b bad (runP bad d (2,[])).1) _;rw[ZA (by decide)];replace hI:FnC Tryz.prog 156 [.d (Qg (some d))] (.tup [.d (.it .i64 0),.d (.bl false)]):=hI;cases oe with
    |none=>
     replace hK:FnC Tryz.prog 157 [.d (Qg (some d))] (.tup [.d (.it .i64 0),.d (.bl false)]):=hK;refine QL QLT λT=>?_;(repeat' (conv=>whnf);first|refine cEk hS ?_|refine cI i50 ?_|refine rFk hP ?_|refine rFk hI ?_|refine rFk hK ?_|refine gOI ?_|intro x hx hu|intro h|apply sS);exact QH
    |some k=>
     replace hK:FnC Tryz.prog 157 [.d (Qg (some d))] (.tup [.d (.it .i64 (k:Nat)),.d (.bl true)]):=hK;refine QL QLT λT=>?_;(repeat' (conv=>whnf);first|refine cEk hS ?_|refine cI i50 ?_|refine rFk hP ?_|refine rFk hI ?_|refine rFk hK ?_|refine gOI ?_|intro x hx hu|intro h|apply sS);exact QH
   |some n=>
    replace hI:FnC Tryz.prog 156 [.d (Qg (some d))] (.tup [.d (.it .i64 (n:Nat)),.d (.bl true)]):=hI;cases oe with
    |none=>
     replace hK:FnC Tryz.prog 157 [.d (Qg (some d))] (.tup [.d (.it .i64 0),.d (.bl false)]):=hK;show FnH _ _ _ _ _ _ (.d (.it .i64 (runP bad d (2,[])).2)) (Qa b bad (runP bad d (2,[])).1) _;rw[ZA (by decide)];refine QL QLT λT=>?_;(repeat' (conv=>whnf);first|refine cEk hS ?_|refine cI i50 ?_|refine rFk hP ?_|refine rFk hI ?_|refine rFk hK ?_|refine gOI ?_|intro x hx hu|intro h|apply sS);exact QH
    |some q=>
     replace hK:FnC Tryz.prog 157 [.d (Qg (some d))] (.tup [.d (.it .i64 (q:Nat)),.d (.bl true)]):=hK;have hn:=hfi n rfl;have hq:=hfe q rfl;dsimp only;rw[Z8];have g1:=QGG [] (by simp) (n:Nat) om ⟨kind,0,0,0,0,0⟩ 2 (n:Nat);have g2:=QAe [.wr ⟨1+(n:Nat),Z7 ⟨kind,0,0,0,0,0⟩,2,(n:Nat),0⟩] (by simp) (q:Nat) om ⟨true,fo,nm,(n:Nat)⟩ fo;have g3:=QD3 (b:=b) h [.wr ⟨1+(n:Nat),Z7 ⟨kind,0,0,0,0,0⟩,2,(n:Nat),0⟩,.wr ⟨17+(q:Nat),Qh ⟨true,fo,nm,(n:Nat)⟩,3,fo,0⟩] (λs hs=>by
      simp only[zi,xq,or_false]at hs;rcases hs with rfl|rfl
      ·exact ⟨Xl _,by show(0:Int)<=1+_;omega,by show(1:Int)+_<_;omega⟩
      ·exact ⟨ZX _,by show(0:Int)<=17+_;omega,by show(17:Int)+_<_;omega⟩) (by simp)
     generalize hw1:(⟨1+(n:Nat),Z7 ⟨kind,0,0,0,0,0⟩,2,(n:Nat),0⟩:Wr)=w1 at*
     generalize hw2:(⟨17+(q:Nat),Qh ⟨true,fo,nm,(n:Nat)⟩,3,fo,0⟩:Wr)=w2 at*
     rw[xf]at g1;refine QL QLT λT=>?_;(repeat' (conv=>whnf);first|refine cEk hS ?_|refine cI i50 ?_|refine rFk hP ?_|refine rFk hI ?_|refine rFk hK ?_|refine CallI.h g2 [12,13] ?_|refine CallI.hp g3 [0,1,2,3,4,5] ?_|((refine CallI.wk (Wk.nlTs 12 0 1 37 243 wu wu) ⟨_,_,_,_,_,_,rfl,rfl,rfl,rfl⟩ ?_);refine CallI.h g1 [12,13] ?_)|refine gOI ?_|intro x hx hu|intro h|apply sS);exact QH
 ·rw [if_pos c1,ZA c1];refine QL QLT λT=>?_;(repeat' (conv=>whnf);first|refine cEk hS ?_|refine cI i50 ?_|refine rFk hP ?_|refine gOI ?_|intro x hx hu|intro h|apply sS);exact QH
def usK(f:Int->List UInt8)(k:Nat)(b:Int):Bool:=(List.range k).any λn:Nat=>decide (Xd f (n:Nat))&&decide (b∈J5 (Qu f (n:Nat)))
theorem QNO(h:¬Xd f (k:Nat))(b:Int):usK f (k+1) b=usK f k b:=by
 unfold usK;rw[vp,ky];simp[h]
theorem QKX(h:Xd f (k:Nat))(b:Int):usK f (k+1) b=(usK f k b||decide (b∈J5 (Qu f (k:Nat)))):=by
 unfold usK;rw[vp,ky];simp[h]
def mkS(v:Int->Bool)(R:List Bool)(l:List Int):List Bool:=l.foldl (λR b=>R.set b.toNat (v b)) R
theorem QGQ(v:Int->Bool):∀(l:List Int) (R:List Bool),(mkS v R l).length=R.length
 |[],R=>rfl
 |b::t,R=>by
  show(mkS v (R.set b.toNat (v b)) t).length=_;rw[QGQ v t,v8]
theorem QGR(v:Int->Bool){j:Nat}:∀(l:List Int) (R:List Bool),j<R.length->(∀b∈l,0<=b)->(mkS v R l).getD j false=if(j:Int)∈l then v (j:Nat)else R.getD j false
 |[],R,_,_=>by rw[if_neg (by simp)];rfl
 |b::t,R,hj,hb=>by
  have hb0:=hb b zo;show(mkS v (R.set b.toNat (v b)) t).getD j false=_;rw[QGR v t _ (by rw[v8];exact hj) λx hx=>hb x (zk _ hx)];by_cases ht:(j:Int)∈t
  ·rw [if_pos ht,if_pos (zk _ ht)]
  ·rw [if_neg ht,zr,j8];by_cases hbj:b.toNat=j
   ·rw [if_pos hbj,if_pos om,if_pos (by rw[show(j:Int)=b by omega];exact zo),show(j:Int)=b by omega];rfl
   ·rw [if_neg hbj,if_neg (by rw[zi];rintro(h|h);omega;exact ht h),zr]
theorem QHp(v:Int->Bool)(R:List Bool)(l:List Int)(b:Int):mkS v R (l++[b])=(mkS v R l).set b.toNat (v b):=by
 unfold mkS;rw[vz];rfl
theorem QHq(h:RI x):∀b∈J5 x,0<=b/\b<25:=by
 intro b hb;unfold J5 at hb;simp only[zi,xq,or_false]at hb;rcases h with h|h
 ·rcases hb with rfl|rfl|rfl|rfl<;>omega
 ·rcases hb with rfl|rfl|rfl|rfl<;>omega
theorem QHr{x:Ino}:∀i,i<4->(J5 x)[i]? =some (ZR x i)
 |0,_=>rfl
 |1,_=>rfl
 |2,_=>rfl
 |3,_=>rfl
 |i+4,h=>by omega
def QFW(b:Int):Bool:=decide (b>0)
def uO(f:Int->List UInt8):List Bool:=(List.range 25).map λb:Nat=>decide (0<b)&&QD2 f (b:Nat)
theorem QTX(f:Int->List UInt8)(j:Nat)(h:j<(uO f).length):(uO f)[j]=(decide (0<j)&&QD2 f (j:Nat)):=by simp only[uO,z1,x5]
theorem QTY(hl:R.length=25)(h:∀j:Nat,j<25->R.getD j false=(decide (0<j)&&usK f 16 (j:Nat))):R=uO f:=by
 refine vg (by rw[hl];unfold uO;simp) λj h1 h2=>?_;rw[QTX];rw[hl]at h1;have:=h j h1;rw[zr,zj om]at this;exact this
def bkS(E:D)(J R:List Bool)(k:Nat):S:=⟨[(0,.d E),(2,.ptr 0 0),(3,.ptr 1 0),(9,.dg 16 (J.map D.bl)),(10,.d (.it .i64 (k:Nat)))],[(0,.cells 25 (((List.replicate 25 false).map D.bl).map .d)),(1,.cells 25 ((R.map D.bl).map .d))],2⟩
theorem QJF(E:D)(J R:List Bool)(k:Nat):(bkS E J R k).ok=true:=by
 unfold bkS;simp only[S.ok,y9,xr,Ob.lt,Xh];rfl
def QRW(E:D)(J R:List Bool)(k:Nat)(B:List D)(i:Nat):S:=⟨[(0,.d E),(2,.ptr 0 0),(3,.ptr 1 0),(9,.dg 16 (J.map D.bl)),(10,.d (.it .i64 (k:Nat))),(19,.dg 4 B),(20,.d (.it .i64 (i:Nat)))],[(0,.cells 25 (((List.replicate 25 false).map D.bl).map .d)),(1,.cells 25 ((R.map D.bl).map .d))],2⟩
theorem QKY(E:D)(J R:List Bool)(k:Nat)(B:List D)(i:Nat):(QRW E J R k B i).ok=true:=by
 unfold QRW;simp only[S.ok,y9,xr,Ob.lt,Xh];rfl
theorem QLn(d:Option Dk)(hd:Xu d):FnC Tryz.prog 199 [.d (Qg d)] (.dg 25 ((uO (rdS d)).map D.bl)):=by
 have hi:=QFS d hd;have hJ:=QNJ (rdS d);have hJl:=QD9 (rdS d) 24;have he:=λn=>YG d hd n;have hRI:=λn=>QD1 (rdS d) n;generalize iR (rdS d) 24=J at*
 generalize Qg d=E at*
 refine QJ QUn ?_;(repeat' (conv=>whnf);first|refine cEk hi ?_|refine gOI ?_|intro x hx hu|intro h|apply sS);conv=>whnf
 refine QT QB (λx:Nat×List Bool=>x.1<=16/\x.2.length=25/\∀j:Nat,j<25->x.2.getD j false=(decide (0<j)&&usK (rdS d) x.1 (j:Nat))) (fun|(k,R)=>bkS E J R k) (λx=>16-x.1) (0,List.replicate 25 false) ⟨z7 _,rfl,λj hj=>by rw[zr,Wv,if_pos hj];show false=(_&&false);rw[Bool.and_false]⟩ ⟨rr,ai (Qt rfl wu) (ai (Qt rfl wu) trivial),QJF ..⟩ ?_;intro⟨k,R⟩ hk0;have hk:=hk0.1;have hl:=hk0.2.1;have hR:=hk0.2.2;dsimp only at hk hl hR;by_cases hk16:k<16
 ·obtain ⟨r,hr⟩:=Qo (l:=J) (k:=k) om;have hrt:r=decide (Xd (rdS d) (k:Nat)):=by
   have:=hr;rw[hJ,yv,js hk16]at this;exact(za this).symm
  cases r with
  |false=>
   have hno:¬Xd (rdS d) (k:Nat):=of_decide_eq_false hrt.symm;(repeat' (conv=>whnf);first|refine AtA.eq (QTV hr rfl rfl) ?_|refine QA ?_|intro x hx hu|intro h|apply sS);refine again (k+1,R) ⟨hk16,hl,λj hj=>by rw[QNO hno];exact hR j hj⟩ (by first|omega|(dsimp only;omega)) (ai rfl (ai rfl (ai rfl (ai rfl (ai (QK (by first|omega|(dsimp only;omega))) trivial))))) rr (QJF ..)
  |true=>
   have hyes:Xd (rdS d) (k:Nat):=of_decide_eq_true hrt.symm;have hx:=he (k:Nat);have hxR:=hRI (k:Nat);have hus:=λb=>QKX hyes b;generalize Qu (rdS d) (k:Nat)=x at*
   have hbr:=QHq hxR;have hbg:= @QHr x;have hxe:Zn x=[.it .i64 x.k,.it .i64 x.z,.it .i64 x.b0,.it .i64 x.b1,.it .i64 x.b2,.it .i64 x.b3]:=rfl;rw[hxe]at hx;(repeat' (conv=>whnf);first|refine AtA.eq (QTV hr rfl rfl) ?_|refine cEk hx ?_|refine QA ?_|intro x hx hu|intro h|apply sS);conv=>whnf
   refine QT QB (λy:Nat×List Bool=>y.1<=4/\y.2=mkS QFW R ((J5 x).take y.1)) (fun|(i,R')=>QRW E J R' k [.it .i64 x.b0,.it .i64 x.b1,.it .i64 x.b2,.it .i64 x.b3] i) (λy=>4-y.1) (0,R) ⟨z7 _,rfl⟩ ⟨rr,rr,QKY ..⟩ ?_;intro⟨i,R'⟩ hi0;have hi4:=hi0.1;have hR':=hi0.2;dsimp only at hi4 hR';have hl':R'.length=25:=by rw[hR',QGQ];exact hl
   by_cases hi44:i<4
   ·have hb:=hbg i hi44;have hbr':=hbr _ (ya hb);have hst:R'.set (ZR x i).toNat (QFW (ZR x i))=mkS QFW R ((J5 x).take (i+1)):=by rw[QW hb,QHp,<-hR']
    have htl:(ZR x i).toNat<R'.length:=by omega
    have hi3:i=0\/i=1\/i=2\/i=3:=by omega
    rcases hi3 with rfl|rfl|rfl|rfl;all_goals (
     replace hst:R'.set _ _=_:=hst;simp only[ZR]at hst hbr' htl;(repeat' (conv=>whnf);first|refine QA ?_|intro x hx hu|intro h|apply sS);refine again (_+1,R'.set _ (QFW _)) ⟨by omega,hst⟩ (by first|omega|(dsimp only;omega)) (ai rfl (ai rfl (ai rfl (ai rfl (ai rfl (ai rfl (ai (QK (by first|omega|(dsimp only;omega))) trivial))))))) (ai rfl (ai (Qt rfl (stR htl rfl rfl)) trivial)) (QKY ..))
   ·have hi:i=4:=by omega
    have hall:(J5 x).take i=J5 x:=by rw[hi];rfl
    rw[hall]at hR';(repeat' (conv=>whnf);first|refine QA ?_|intro x hx hu|intro h|apply sS);refine again (k+1,R') ⟨hk16,hl',λj hj=>?_⟩ (by first|omega|(dsimp only;omega)) (ai rfl (ai rfl (ai rfl (ai rfl (ai (QK (by first|omega|(dsimp only;omega))) trivial))))) rr (QJF ..);rw[hR',QGR QFW _ _ om (λb hb=>(hbr b hb).1),hus];by_cases hm:((j:Nat):Int)∈J5 x
    ·rw [if_pos hm,decide_eq_true hm,Vk,wh];unfold QFW;rw[x8,decide_eq_true_eq,decide_eq_true_eq];omega
    ·rw [if_neg hm,decide_eq_false hm,qd];exact hR j hj
 ·have h16:k=16:=by omega
  rw[h16]at hR;have hfin:=QTY hl hR;(repeat' (conv=>whnf);first|refine AtA.eq (QPT hl rfl rfl) ?_|refine QA ?_|intro x hx hu|intro h|apply sS);conv=>whnf
  generalize hv:ldA _ 0 _=v;have hv':v= .dg 25 (R.map D.bl):=by
   rw[<-hv];refine(congrArg _ (show _=(R.map D.bl).map AV.d by show []++_++[]=_;rw[xf,y4])).trans (QPT hl rfl rfl)
  rw[hv'];show AV.dg 25 (R.map D.bl)=_;rw[hfin]
variable {mk:Nat->Bool}
theorem QTZ(h:∀j:Nat,1<=j->j<25->mk j=QD2 f (j:Nat)):(FL mk 1 25).map (λi:Nat=>(i:Int))=frA f:=by
 unfold FL frA;rw[List.range'_eq_map_range,List.filter_map,kq];have e:(List.range 24).filter ((λj=> !(mk j))∘λx=>1+x)=(List.range 24).filter λi:Nat=> !(QD2 f ((i+1:Nat):Int)):=by
  refine List.filter_congr λi hi=>?_;have h24:=xd.1 hi;show(!(mk (1+i)))=_;rw[h (1+i) om om,ql]
 show List.map _ ((List.range (25-1)).filter _)=_;rw[show 25-1=24 from rfl,e];refine jr λi _=>?_;show((1+i:Nat):Int)=((i+1:Nat):Int);rw[ql]
theorem QTa(l:List Nat):vN l=vI (l.map λi:Nat=>(i:Int)):=by
 unfold vN vI;rw[kq];rfl
theorem QQr(h:∀j:Nat,1<=j->j<25->mk j=QD2 f (j:Nat))(n:Nat):vN ((FL mk 1 25).take n)=vI (frB f n):=by
 rw[QTa,uz,QTZ h];rfl
theorem QRX(f:Int->List UInt8)(j:Nat)(h1:1<=j)(h2:j<25):(uO f).getD j false=QD2 f (j:Nat):=by
 unfold uO;rw[zr,yv,js h2];show(decide (0<j)&&_)=_;rw[decide_eq_true om,wz]
theorem QQs(n:Nat)(J:List Bool):(AV.dg n (J.map D.bl)).flatP=true:=by
 show(J.map D.bl).all D.flat=true;rw[ze];intro x hx;obtain⟨b,_,rfl⟩:=yf.1 hx;rfl
def frV(l:List Int)(n:Nat):AV:=if l.length=n then .tup [.d (.fs 1 (vI l)),.d (.bl true)]else .tup [.d (.fs 1 []),.d (.bl false)]
theorem QNP(l:List Int):(vI l).length=l.length:=zb ..
theorem QKZ(h:Fd bad d N)(n:Nat)(hn:n<=100):FnH Tryz.prog 158 [.ptr 0 0,.d (.it .i64 (n:Nat))] (Z4 b bad d) 5 [0] (frV (frB (rdS (some d)) n) n) (Z4 b bad d) 5:=by
 have hi:=QLn (some d) h.ok;have hul:(uO (rdS (some d))).length=25:=by unfold uO;simp
 have hF:=QLl (uO (rdS (some d))) hul 1 25 n (by decide) om (by decide);rw[QQr (QRX _) n]at hF;generalize uO (rdS (some d))=J at*
 have hl:=QNP (frB (rdS (some d)) n);unfold frV;generalize frB (rdS (some d)) n=l at*
 replace hF:FnH Tryz.prog 196 [.d (.it .i64 1),.d (.it .i64 25),.d (.it .i64 (n:Nat)),.fn (.func 200) [] [.ptr 0 0]] [(0,.cells 25 ((J.map D.bl).map .d))] 1 [0] (.d (.fs 1 (vI l))) [(0,.cells 25 ((J.map D.bl).map .d))] 1:=hF;by_cases hc:l.length=n
 ·rw [if_pos hc];refine QL QSu λT=>?_;(repeat' (conv=>whnf);first|refine CallI.byR (Jj.mkF ⟨_,_,ArF.fr _ _ _ _ (frD wu wu) ArF.nil,hi,QQs _ _,?_⟩)|refine CallI.byH hF [8] wu ⟨rfl,by decide,by with_unfolding_all exact rfl⟩ (ai (Qt rfl (by show []++_++[]=_;rw[xf,y4];exact(QGP _ _).symm)) trivial) rfl rfl ?_|refine gOI ?_|intro x hx hu|intro h|apply sS);all_goals try omega
  exact QH
 ·rw [if_neg hc];refine QL QSu λT=>?_;(repeat' (conv=>whnf);first|refine CallI.byR (Jj.mkF ⟨_,_,ArF.fr _ _ _ _ (frD wu wu) ArF.nil,hi,QQs _ _,?_⟩)|refine CallI.byH hF [8] wu ⟨rfl,by decide,by with_unfolding_all exact rfl⟩ (ai (Qt rfl (by show []++_++[]=_;rw[xf,y4];exact(QGP _ _).symm)) trivial) rfl rfl ?_|refine gOI ?_|intro x hx hu|intro h|apply sS);all_goals try omega
  refine⟨⟨[(4,.d (.fs 1 [])),(5,.d (.bl false))],Z4 b bad d++Qr 5 [0] T,30⟩,Wk.vwL (ai (Vw.ts' rfl) (ai (Vw.eq rfl) trivial)) (ai (VwO.same _) (ai (VwO.same _) (ai (VwO.same _) (ai (VwO.same _) (ai (VwO.same _) (ai (VwO.same _) (ai (VwO.same _) trivial))))))) rfl,rfl,rr,rr⟩
theorem QEC(h:a+c.length<=s.length):((QF s).map AV.d).take a++(QF c).map AV.d++((QF s).map AV.d).drop (a+c.length)=(QF (QEx s a c)).map AV.d:=by
 unfold QEx QF;simp only[ye,uz,kv]
theorem J2{a:List AV}(hx:a=(QF s).map AV.d)(h:s.length=32)(ha:ty.kd.agg=true)(hz:ty.size=32):ldA ty 0 a= .dg 32 (QF s):=by
 rw[hx];unfold ldA;rw[ha,cond_true,hz,vl,z8 (by rw[zb,Za,h];exact zt _)];unfold QE1;rw[JZ]
theorem QHs(c:List UInt8):(QD c).flatten=QF c:=by
 unfold QD QF;induction c with
 |nil=>rfl
 |cons b t ih=>simp only[w8,vy,ih,jf]
variable {C:List AV}
theorem QRY(hC:C=(QF s).map AV.d)(ho:o=a)(hq:q=a+c.length)(h:a+c.length<=s.length):(QF (QEx s a c)).map AV.d=C.take o++(QD c).flatten.map AV.d++C.drop q:=by
 rw[hC,ho,hq,QHs,QEC h]
theorem letC_id{e:List AV}{K:List AV->Prop}(h:Zy e K):Zy e K:=h
theorem QPW(s:List UInt8)(hs:s.length=32)(a:Nat)(c:List UInt8)(h:a+c.length<=32):FnC Tryz.prog 159 [.dg 32 (QF s),.d (.it .i64 (a:Nat)),.d (.fs 1 (QD c))] (.tup [.dg 32 (QF (QEx s a c)),.d (.bl true)]):=by
 have hl:=QM7 (s:=s) (a:=a) (c:=c) om;have hpc:=QEC (s:=s) (a:=a) (c:=c) om;have hbl:(QD c).length=c.length:=zb ..;have hf:=QGA (a:Nat) ((QD c).length:Nat);rw[decide_eq_true om]at hf;obtain⟨g,hg⟩:=ZO hs;subst hg;refine QJ QSv ?_;(repeat' (conv=>whnf);first|refine cEk hf ?_|(refine Zy.mk ((QF (QEx (Qv g) a c)).map AV.d) (QRY wu (by show 0+((a:Nat):Int).toNat*1=a;omega) (by show 0+((a:Nat):Int).toNat*1+(QD c).length*1=a+c.length;omega) h) ?_)|refine AtA.eq (J2 rfl (hl.trans hs) rfl rfl) ?_|refine QA ?_|intro x hx hu|intro h|apply sS);conv=>whnf
 generalize hv:ldA _ 0 _=v;have hv':v= .dg 32 (QF (QEx (Qv g) a c)):=by
  rw[<-hv];refine J2 ?_ (hl.trans hs) rfl rfl;show []++_++[]=_;rw[xf,y4]
 rw[hv'];rfl
theorem QCy:Xi ZD=[.bl false,.it .i64 0,.st [],.it .i64 0]:=rfl
theorem QBt{p:List UInt8}: -1<=(ZS f p).1.k/\(ZS f p).1.k<24:=by
 unfold ZS QLe;split
 ·exact ⟨(by decide:(-1:Int)<=0),(by decide:(0:Int)<24)⟩
 ·split
  ·exact ⟨(by decide:(-1:Int)<=0),(by decide:(0:Int)<24)⟩
  ·split
   ·exact ⟨(by decide:(-1:Int)<=0),(by decide:(0:Int)<24)⟩
   ·show-1<=QM0 _/\QM0 _<24;cases h:JA f (Qj f (Zq p).1).1 (Zq p).2.1 with
    |none=>exact⟨by decide,by decide⟩
    |some k=>
     have:=xd.1 (km h);exact⟨by show-1<=(k:Int);omega,by show(k:Int)<24;omega⟩
theorem QJG(h:RI x):0<=x.z/\x.z<=128:=by
 rcases h with h|h
 ·omega
 ·omega
theorem XZ(k:Int)(hk:0<=k/\k<24)(x:Ent)(f:Int):QEy (.wr ⟨17+k,Qh x,3,f,0⟩):=⟨ZX x,(by omega:0<=17+k),(by omega:17+k<65)⟩
theorem QED(n:Int)(hn:0<=n/\n<16)(x:Ino)(k i:Int):QEy (.wr ⟨1+n,Z7 x,k,i,0⟩):=⟨Xl x,(by omega:0<=1+n),(by omega:1+n<65)⟩
theorem QBJ(f:Int->List UInt8)(p:List UInt8):0<=(Xv f p).1/\(Xv f p).1<16:=by
 unfold Xv;split
 ·exact ⟨(by decide:(0:Int)<=0),(by decide:(0:Int)<16)⟩
 ·split
  ·exact ⟨(by decide:(0:Int)<=0),(by decide:(0:Int)<16)⟩
  ·rename_i h;dsimp only;have h:(Qu f (Qj f p).1).k=1:=Vb h;unfold Qu at h;split at h
   ·assumption
   ·exact absurd h (by decide)
theorem QLo(h:Fd bad d N)(p:List UInt8)(hp:p.length<=100000):
  FnH Tryz.prog 73 [.ptr 5 0,.d (.st p)] (Qa b bad d) 6 [0,5] (.d (.it .i64 (runP bad d (QBn (rdS (some d)) p)).2)) (Qa b bad (runP bad d (QBn (rdS (some d)) p)).1) 6:=by
 have hP:=QNE d h.ok p hp;have hk:=QBt (f:=rdS (some d)) (p:=p);have hE:=YH (some d) h.ok (ZS (rdS (some d)) p).1.k;have hK:=QBr d h.ok (QG (rdS (some d)) (ZS (rdS (some d)) p).1.k).t;have hL:=QO9 (some d) h.ok (QG (rdS (some d)) (ZS (rdS (some d)) p).1.k).t;unfold QBn QM3;generalize ZS (rdS (some d)) p=a at*
 generalize hn:nms (rdS (some d)) (QG (rdS (some d)) a.1.k).t=ns at*
 generalize QG (rdS (some d)) a.1.k=x at*
 generalize (Qu (rdS (some d)) x.t).k=kk at*
 obtain⟨⟨fo,nm,k⟩,e⟩:=a;obtain⟨xu,xp,xn,xt⟩:=x;dsimp only at*
 replace hE:FnC Tryz.prog 113 [.d (Qg (some d)),.d (.it .i64 k)] (.dg 4 [.bl xu,.it .i64 xp,.st xn,.it .i64 xt]):=hE;by_cases c1:e=0
 ·subst c1;rw[if_neg (by simp)];by_cases c2:k<0
  ·rw [if_pos c2,ZA (by decide)];have hP:FnC Tryz.prog 126 [.d (.fp 1 [Qg (some d)]),.d (.st p)] (.tup [.dg 3 [.it .i64 fo,.st nm,.it .i64 k],.d (.it .i64 4)]):=by
    have:=hP;unfold QLi at this;rw[if_pos ⟨rfl,c2⟩]at this;exact this
   refine QL i73 λT=>?_;(repeat' (conv=>whnf);first|refine cI i50 ?_|refine rFk hP ?_|refine QA ?_|intro x hx hu|intro h|apply sS);exact QH
  ·rw [if_neg c2];have hP:FnC Tryz.prog 126 [.d (.fp 1 [Qg (some d)]),.d (.st p)] (.tup [.dg 3 [.it .i64 fo,.st nm,.it .i64 k],.d (.it .i64 0)]):=by
    have:=hP;unfold QLi at this;rw[if_neg (λx=>c2 x.2)]at this;exact this
   have g2:=QAe [] (by simp) k om ZD fo;have g3:=QD3 (b:=b) h [.wr ⟨17+k,Qh ZD,3,fo,0⟩] (λs hs=>by
    simp only[zi,xq,or_false]at hs;rw[hs];exact XZ k om _ _) (by simp)
   rw[QCy]at g2;generalize (⟨17+k,Qh ZD,3,fo,0⟩:Wr)=w1 at*
   rw[xf]at g2;by_cases c3:kk=2
   ·subst c3;cases ns with
    |nil=>
     rw[if_neg (by simp),Z8];replace hL:FnC Tryz.prog 128 [.d (Qg (some d)),.d (.it .i64 xt)] (.d (.fs 1 [])):=hL;refine QL i73 λT=>?_;(repeat' (conv=>whnf);first|refine cI i50 ?_|refine rFk hP ?_|refine rFk hE ?_|refine rFk hK ?_|refine CallI.byRL (ArF.fr _ _ _ _ (frD wu wu) (ArF.pl _ _ _ _ rfl .nil)) hL (λh0=>?_) (λoff cap hpos=>absurd hpos (by decide))|refine CallI.hp g3 [0,1,2,3,4,5] ?_|((refine CallI.wk (Wk.nlTs 12 0 1 37 243 wu wu) ⟨_,_,_,_,_,_,rfl,rfl,rfl,rfl⟩ ?_);refine CallI.h g2 [12,13] ?_)|refine QA ?_|intro x hx hu|intro h|apply sS);exact QH
    |cons n0 nt=>
     rw[if_pos ⟨rfl,by simp⟩,ZA (by decide)];refine QL i73 λT=>?_;(repeat' (conv=>whnf);first|refine cI i50 ?_|refine rFk hP ?_|refine rFk hE ?_|refine rFk hK ?_|refine CallI.byRL (ArF.fr _ _ _ _ (frD wu wu) (ArF.pl _ _ _ _ rfl .nil)) hL (λh0=>by cases h0) (λoff cap hpos=>?_)|refine QA ?_|intro x hx hu|intro h|apply sS);exact QH
   ·rw [if_neg (by simp[c3]),Z8];refine QL i73 λT=>?_;(repeat' (conv=>whnf);first|refine cI i50 ?_|refine rFk hP ?_|refine rFk hE ?_|refine rFk hK ?_|refine CallI.hp g3 [0,1,2,3,4,5] ?_|((refine CallI.wk (Wk.nlTs 12 0 1 37 243 wu wu) ⟨_,_,_,_,_,_,rfl,rfl,rfl,rfl⟩ ?_);refine CallI.h g2 [12,13] ?_)|refine QA ?_|intro x hx hu|intro h|apply sS);exact QH
 ·rw [if_pos c1,ZA c1];have hP:FnC Tryz.prog 126 [.d (.fp 1 [Qg (some d)]),.d (.st p)] (.tup [.dg 3 [.it .i64 fo,.st nm,.it .i64 k],.d (.it .i64 e)]):=by
   have:=hP;unfold QLi at this;rw[if_neg (λx=>c1 x.1)]at this;exact this
  refine QL i73 λT=>?_;(repeat' (conv=>whnf);first|refine cI i50 ?_|refine rFk hP ?_|refine QA ?_|intro x hx hu|intro h|apply sS);exact QH
theorem QNQ(h:Fd bad d N)(p:List UInt8)(hp:p.length<=100000)(tq:Int):
  FnH Tryz.prog 90 [.ptr 5 0,.d (.st p),.d (.it .i64 tq)] (Qa b bad d) 6 [0,5] (.d (.it .i64 (runP bad d (QBl (rdS (some d)) p tq)).2)) (Qa b bad (runP bad d (QBl (rdS (some d)) p tq)).1) 6:=by
 have hP:=QD7 d h.ok p hp;have hn:=QBJ (rdS (some d)) p;have hz:=QJG (JL (rdS (some d)) p);unfold QBl QPG;generalize Xv (rdS (some d)) p=q at*
 obtain⟨n,⟨k,z,b0,b1,b2,b3⟩,e⟩:=q;dsimp only at*
 replace hP:FnC Tryz.prog 103 [.d (.fp 1 [Qg (some d)]),.d (.st p)] (.tup [.d (.it .i64 n),.dg 6 [.it .i64 k,.it .i64 z,.it .i64 b0,.it .i64 b1,.it .i64 b2,.it .i64 b3],.d (.it .i64 e)]):=hP;by_cases c1:e=0
 ·subst c1;rw[if_neg (by simp)];by_cases c2:tq<0\/z<tq
  ·rw [if_pos c2,ZA (by decide)];refine QL i90 λT=>?_;(repeat' (conv=>whnf);first|refine rFk hP ?_|refine QA ?_|intro x hx hu|intro h|apply sS);all_goals try omega
   all_goals exact QH
  ·rw [if_neg c2];by_cases c3:tq=z
   ·subst c3;rw[if_pos rfl,Z8];refine QL i90 λT=>?_;(repeat' (conv=>whnf);first|refine rFk hP ?_|refine QA ?_|intro x hx hu|intro h|apply sS);all_goals try omega
    all_goals exact QH
   ·rw [if_neg c3,Z8];have g3:=QD3 (b:=b) h [.wr ⟨1+n,Z7 (trI ⟨k,z,b0,b1,b2,b3⟩ tq),2,n,0⟩] (λs hs=>by
     simp only[zi,xq,or_false]at hs;rw[hs];exact QED n om _ _ _) (by simp)
    have g2:=QGG [] (by simp) n om (trI ⟨k,z,b0,b1,b2,b3⟩ tq) 2 n;have hnd:=Je tq om;generalize (⟨1+n,Z7 (trI ⟨k,z,b0,b1,b2,b3⟩ tq),2,n,0⟩:Wr)=w1 at*
    rw[xf]at g2;have c4:(tq+31)/32=0\/(tq+31)/32=1\/(tq+31)/32=2\/(tq+31)/32=3\/(tq+31)/32=4:=by omega
    rcases c4 with c4|c4|c4|c4|c4;all_goals (
     rw[c4]at hnd;unfold trI nd at g2;rw[c4]at g2;refine QL i90 λT=>?_;(repeat' (conv=>whnf);first|refine cEk hnd ?_|refine OpX.clearM QB rfl rfl rfl wu rfl wu rfl rfl wu wu (by decide) (by decide) ?_|refine rFk hP ?_|refine CallI.hp g3 [0,1,2,3,4,5] ?_|((refine CallI.wk (Wk.nlTs 11 0 1 37 243 wu wu) ⟨_,_,_,_,_,_,rfl,rfl,rfl,rfl⟩ ?_);refine CallI.h g2 [11,12] ?_)|refine gOI ?_|intro x hx hu|intro h|apply sS);all_goals try omega
     all_goals exact QH)
 ·rw [if_pos c1,ZA c1];refine QL i90 λT=>?_;(repeat' (conv=>whnf);first|refine rFk hP ?_|refine QA ?_|intro x hx hu|intro h|apply sS);all_goals try omega
  all_goals exact QH
theorem QPX{j:Int}(h:j∈frA f):1<=j/\j<=24:=by
 unfold frA at h;obtain⟨i,hi,rfl⟩:=yf.1 h;have:=xd.1 (uc.1 hi).1;omega
theorem QDY{j:Int}(h:j∈frB f n):1<=j/\j<=24:=QPX (xg h)
theorem QPY{fr:List Int}(h:∀j∈fr,1<=j/\j<=24)(i:Nat)(e:Int)(he:0<=e/\e<=24):0<=fr.getD i e/\fr.getD i e<=24:=by
 rw[zr];by_cases hi:i<fr.length
 ·rw [zj hi];have:=h _ (zm hi);exact⟨by show 0<=fr[i];omega,by show fr[i]<=24;omega⟩
 ·rw [wo om];exact he
theorem QDZ{fr:List Int}(h:∀j∈fr,1<=j/\j<=24)(i:Nat)(he:0<=ZR x i/\ZR x i<=24):0<=QHb x had fr i/\QHb x had fr i<=24:=by
 unfold QHb;split
 ·exact QPY h _ _ he
 ·exact he
theorem QBu(h:RI x)(i:Nat):0<=ZR x i/\ZR x i<=24:=by
 have:(0<=x.b0/\x.b0<=24)/\(0<=x.b1/\x.b1<=24)/\(0<=x.b2/\x.b2<=24)/\(0<=x.b3/\x.b3<=24):=by
  rcases h with h|h
  ·omega
  ·omega
 obtain⟨h0,h1,h2,h3⟩:=this
 match i with
 |0=>exact h0
 |1=>exact h1
 |2=>exact h2
 |i+3=>exact h3
theorem QGS(hx:RI x){fr:List Int}(h:∀j∈fr,1<=j/\j<=24)(z:Int)(i:Nat):0<=ZR (Xe x z had fr) i/\ZR (Xe x z had fr) i<=24:=by
 match i with
 |0=>exact QDZ h 0 (QBu hx 0)
 |1=>exact QDZ h 1 (QBu hx 1)
 |2=>exact QDZ h 2 (QBu hx 2)
 |i+3=>exact QDZ h 3 (QBu hx 3)
theorem QLp(c:List UInt8)(i j:Nat):QD ((c.drop i).take j)=((QD c).take (i+j)).drop i:=by
 unfold QD;rw[uz,kv,<-List.take_drop]
theorem QTb{a:Int}(h0:32*(k:Int)<=a)(h1:a<32*(k:Int)+32)(hk:k<=100):IntKind.i64.wrap (Int.tdiv a 32)=(k:Int):=by
 have e:Int.tdiv a 32=(k:Int):=by
  rw[jm om];omega
 rw[e,j7 _ om]
theorem QTc{a:Int}(h0:32*(k:Int)<=a)(h1:a<32*(k:Int)+32):Int.tmod a 32=(((a-32*(k:Int)).toNat:Nat):Int):=by
 rw[qw om];omega
theorem QGT{n:Int}{b:List UInt8}(hy:∀i,0<=ZR y i/\ZR y i<=24):∀s∈XF f n x y had off b k,QEy s:=by
 intro s hs;unfold XF at hs;obtain⟨i,_,rfl⟩:=yf.1 hs;unfold QM1;have:=hy i;exact⟨QAI _ _ _ _,by show(0:Int)<=40+ZR y i;omega,by show 40+ZR y i<(65:Int);omega⟩
theorem QBv{f:Int->List UInt8}{n:Int}{x y:Ino}{had:Nat}{off:Int}{b:List UInt8}{k:Nat}:(XF f n x y had off b k).length<=k:=by
 unfold XF;rw[zb];exact xy (u9 _ _) (by rw[xj];exact zt _)
theorem QKa{b:Nat}(h:b<=4):IntKind.i64.wrap ((a:Int)+(b:Int)-(a:Int))=(b:Int):=by
 rw[show(a:Int)+(b:Int)-(a:Int)=(b:Int) by omega,j7 _ om]
theorem QGU{a b:List (List D)}{L:List AV}(hL:L=[.ts n a q])(h:a=b):Ob.cells 1 L=Ob.cells 1 [.ts n b q]:=by rw[hL,h]
theorem QDa{a b:Int}:(if b>a then b else a)=max a b:=by
 split<;>omega
theorem QJH{fr:List Int}(h:had+fr.length<=4)(z:Int):
  [AV.d (.it .i64 x.k),.d (.it .i64 z),.d (.it .i64 x.b0),.d (.it .i64 x.b1),.d (.it .i64 x.b2),.d (.it .i64 x.b3)].take (2+had)++(vI fr).flatten.map AV.d++[AV.d (.it .i64 x.k),.d (.it .i64 z),.d (.it .i64 x.b0),.d (.it .i64 x.b1),.d (.it .i64 x.b2),.d (.it .i64 x.b3)].drop (2+had+fr.length)=(Zn (Xe x z had fr)).map AV.d:=by
 have c:had=0\/had=1\/had=2\/had=3\/had=4:=by omega
 rcases c with rfl|rfl|rfl|rfl|rfl;all_goals
  rcases fr with _|⟨a,_|⟨b,_|⟨c,_|⟨d,_|⟨e,fr⟩⟩⟩⟩⟩;all_goals first|rfl|(exfalso;simp only[yq,xv]at h;omega)
theorem QKb{ti:Nat->Option Ty}(h:QX P ti N 5 ops σ K):QX P ti N 5 ops σ K:=h
theorem QKc{ti:Nat->Option Ty}(h:QX P ti N 7 ops σ K):QX P ti N 7 ops σ K:=h
def QTd:Tr:=(.cons 0 (.cons 1 (.cons 2 (.cons 3 (.cons 4 (.cons 5 (.cons 6 (.cons 7 (.cons 8 (.cons 9 .nil .nil) .nil) (.cons 8 (.cons 7 (.cons 9 .nil .nil) .nil) .nil)) (.cons 7 (.cons 6 (.cons 8 (.cons 9 .nil .nil) .nil) .nil) .nil)) .nil) .nil) .nil) .nil) .nil) (.cons 1 (.cons 0 (.cons 2 (.cons 3 (.cons 4 (.cons 5 (.cons 6 (.cons 7 (.cons 8 (.cons 9 .nil .nil) .nil) (.cons 8 (.cons 7 (.cons 9 .nil .nil) .nil) .nil)) (.cons 7 (.cons 6 (.cons 8 (.cons 9 .nil .nil) .nil) .nil) .nil)) .nil) .nil) .nil) .nil) (.cons 2 (.cons 0 (.cons 3 (.cons 4 (.cons 5 (.cons 6 (.cons 7 (.cons 8 (.cons 9 .nil .nil) .nil) (.cons 8 (.cons 7 (.cons 9 .nil .nil) .nil) .nil)) (.cons 7 (.cons 6 (.cons 8 (.cons 9 .nil .nil) .nil) .nil) .nil)) .nil) .nil) .nil) (.cons 3 (.cons 0 (.cons 4 (.cons 5 (.cons 6 (.cons 7 (.cons 8 (.cons 9 .nil .nil) .nil) (.cons 8 (.cons 7 (.cons 9 .nil .nil) .nil) .nil)) (.cons 7 (.cons 6 (.cons 8 (.cons 9 .nil .nil) .nil) .nil) .nil)) .nil) .nil) .nil) .nil)) .nil)) .nil))
def QTe(b:Bool)(bad:List Int)(d:Dk)(T:Nat->Nat)(n:Int)(x:Ino)(off:Int)(c:List UInt8)(had:Nat):S:=⟨[(0,.ptr 5 0),(1,.d (.it .i64 n)),(3,.d (.it .i64 off)),(4,.d (.fs 1 (QD c))),(7,.ptr 9 0),(11,.ptr 10 0),(12,.d (.it .i64 (off+(QD c).length))),(13,.d (.it .i64 (had:Nat)))],(9,.cells 6 [.d (.it .i64 x.k),.d (.it .i64 x.z),.d (.it .i64 x.b0),.d (.it .i64 x.b1),.d (.it .i64 x.b2),.d (.it .i64 x.b3)])::(10,.cells 6 [.d (.it .i64 x.k),.d (.it .i64 x.z),.d (.it .i64 x.b0),.d (.it .i64 x.b1),.d (.it .i64 x.b2),.d (.it .i64 x.b3)])::(Qa b bad d++Qr 6 [0,5] T),12⟩
def QTf(b:Bool)(bad:List Int)(d:Dk)(T:Nat->Nat)(n:Int)(x:Ino)(off:Int)(c:List UInt8)(had:Nat)(z:Int)(fr:List Int)(ok:Bool):S:=⟨[(0,.ptr 5 0),(1,.d (.it .i64 n)),(3,.d (.it .i64 off)),(4,.d (.fs 1 (QD c))),(7,.ptr 9 0),(11,.ptr 10 0),(12,.d (.it .i64 (off+(QD c).length))),(13,.d (.it .i64 (had:Nat))),(14,.d (.fs 1 (vI fr))),(15,.d (.bl ok))],(9,.cells 6 [.d (.it .i64 x.k),.d (.it .i64 x.z),.d (.it .i64 x.b0),.d (.it .i64 x.b1),.d (.it .i64 x.b2),.d (.it .i64 x.b3)])::(10,.cells 6 [.d (.it .i64 x.k),.d (.it .i64 z),.d (.it .i64 x.b0),.d (.it .i64 x.b1),.d (.it .i64 x.b2),.d (.it .i64 x.b3)])::(Qa b bad d++Qr 6 [0,5] T),12⟩
theorem QRZ{fr:List Int}{z:Int}(hC:C=[AV.d (.it .i64 x.k),.d (.it .i64 z),.d (.it .i64 x.b0),.d (.it .i64 x.b1),.d (.it .i64 x.b2),.d (.it .i64 x.b3)])(ho:o=2+had)(hq:q=2+had+fr.length)(h:had+fr.length<=4):
  (Zn (Xe x z had fr)).map AV.d=C.take o++(vI fr).flatten.map AV.d++C.drop q:=by
 rw[hC,ho,hq,QJH h]
def ptA(b:Bool)(bad:List Int)(d:Dk)(T:Nat->Nat)(n:Int)(x y:Ino)(off:Int)(c:List UInt8)(had:Nat):Nat×Int->S|(k,p)=>⟨[(0,.ptr 5 0),(1,.d (.it .i64 n)),(3,.d (.it .i64 off)),(4,.d (.fs 1 (QD c))),(7,.ptr 9 0),(11,.ptr 10 0),(12,.d (.it .i64 (off+(QD c).length))),(13,.d (.it .i64 (had:Nat))),(16,.ptr 12 0),(17,.d (.it .i64 p))],(9,.cells 6 [.d (.it .i64 x.k),.d (.it .i64 x.z),.d (.it .i64 x.b0),.d (.it .i64 x.b1),.d (.it .i64 x.b2),.d (.it .i64 x.b3)])::(10,.cells 6 ((Zn y).map AV.d))::(12,.cells 1 [.ts 37 ((XF (rdS (some d)) n x y had off c k).map JK) 13])::(13,.tail 243 true)::(Qa b bad d++Qr 6 [0,5] T),14⟩
def ptB(b:Bool)(bad:List Int)(d:Dk)(T:Nat->Nat)(n:Int)(x y:Ino)(off:Int)(c:List UInt8)(had:Nat)(k:Nat)(p q:Int)(L:List Stp)(s:List UInt8):S:=⟨[(0,.ptr 5 0),(1,.d (.it .i64 n)),(3,.d (.it .i64 off)),(4,.d (.fs 1 (QD c))),(7,.ptr 9 0),(11,.ptr 10 0),(12,.d (.it .i64 (off+(QD c).length))),(13,.d (.it .i64 (had:Nat))),(16,.ptr 12 0),(17,.d (.it .i64 p)),(18,.d (.it .i64 (k:Nat))),(19,.d (.it .i64 q)),(20,.ptr 14 0)],(9,.cells 6 [.d (.it .i64 x.k),.d (.it .i64 x.z),.d (.it .i64 x.b0),.d (.it .i64 x.b1),.d (.it .i64 x.b2),.d (.it .i64 x.b3)])::(10,.cells 6 ((Zn y).map AV.d))::(12,.cells 1 [.ts 37 (L.map JK) 13])::(13,.tail 243 true)::(14,.cells 32 ((QF s).map AV.d))::(Qa b bad d++Qr 6 [0,5] T),15⟩
def QCz:Tr:=(.cons 0 (.cons 1 (.cons 2 (.cons 3 (.cons 4 (.cons 5 (.cons 6 (.cons 7 .nil .nil) (.cons 7 (.cons 6 .nil .nil) .nil)) (.cons 6 (.cons 5 (.cons 7 .nil .nil) .nil) .nil)) .nil) .nil) .nil) (.cons 2 (.cons 1 (.cons 3 (.cons 4 (.cons 5 (.cons 6 (.cons 7 .nil .nil) (.cons 7 (.cons 6 .nil .nil) .nil)) (.cons 6 (.cons 5 (.cons 7 .nil .nil) .nil) .nil)) .nil) .nil) .nil) .nil)) (.cons 1 (.cons 0 (.cons 2 (.cons 3 (.cons 4 (.cons 5 (.cons 6 (.cons 7 .nil .nil) (.cons 7 (.cons 6 .nil .nil) .nil)) (.cons 6 (.cons 5 (.cons 7 .nil .nil) .nil) .nil)) .nil) .nil) .nil) (.cons 2 (.cons 0 (.cons 3 (.cons 4 (.cons 5 (.cons 6 (.cons 7 .nil .nil) (.cons 7 (.cons 6 .nil .nil) .nil)) (.cons 6 (.cons 5 (.cons 7 .nil .nil) .nil) .nil)) .nil) .nil) .nil) .nil)) (.cons 2 (.cons 0 (.cons 1 (.cons 3 (.cons 4 (.cons 5 (.cons 6 (.cons 7 .nil .nil) (.cons 7 (.cons 6 .nil .nil) .nil)) (.cons 6 (.cons 5 (.cons 7 .nil .nil) .nil) .nil)) .nil) .nil) .nil) (.cons 1 (.cons 0 (.cons 3 (.cons 4 (.cons 5 (.cons 6 (.cons 7 .nil .nil) (.cons 7 (.cons 6 .nil .nil) .nil)) (.cons 6 (.cons 5 (.cons 7 .nil .nil) .nil) .nil)) .nil) .nil) .nil) .nil)) .nil)))
theorem JN{ti:Nat->Option Ty}(h:QX P ti N 19 ops σ K):QX P ti N 19 ops σ K:=h
theorem QTg{len:Nat}(h0:0<=off)(hk:off/32<=(k:Int))(hlt:atK off len k<off+len):
  off<=atK off len k/\32*(k:Int)<=atK off len k/\atK off len k<32*(k:Int)+32/\atK off len k<atK off len (k+1)/\atK off len (k+1)<=off+len/\atK off len (k+1)<=32*(k:Int)+32/\atK off len (k+1)=min (32*(k:Int)+32) (off+len)/\QBG off len k=true:=by
 have e1:atK off len k=max off (32*(k:Int)):=by unfold atK at hlt⊢;omega
 have e2:atK off len (k+1)=min (32*(k:Int)+32) (off+len):=by unfold atK;omega
 rw[e1]at hlt⊢;rw[e2];refine⟨by omega,by omega,by omega,by omega,by omega,by omega,rfl,?_⟩;unfold QBG;exact decide_eq_true ⟨by omega,by omega,by omega⟩
theorem QRa{len:Nat}(h:¬atK off len k<off+len):∀i,k<=i->QBG off len i=false:=λi hi=>by
 unfold QBG atK at*
 exact decide_eq_false om
theorem QGV:Yg [.it .i64 y.k,.it .i64 y.z,.it .i64 y.b0,.it .i64 y.b1,.it .i64 y.b2,.it .i64 y.b3] [.it .i64 x.k,.it .i64 x.z,.it .i64 x.b0,.it .i64 x.b1,.it .i64 x.b2,.it .i64 x.b3]=decide (y=x):=by
 obtain⟨a0,a1,a2,a3,a4,a5⟩:=x;obtain⟨c0,c1,c2,c3,c4,c5⟩:=y;rw[x8,decide_eq_true_eq];simp[Yg,eqD]
theorem QDb(bad:List Int)(d:Dk)(hn:0<=d.nx/\d.nx<=1000000)(hb:bad.length<=1000000)(hlg:d.log.length<=1000000)(he: -1000000<=d.ep/\d.ep<=1000000):
  FnH Tryz.prog 64 [.ptr 0 0] (Qp bad d) 1 [0] (.d (.it .i64 (if d.nx∈bad then 3 else 0))) (Qp bad (if d.nx∈bad then tk d else YX d)) 1:=by
 have hin:FnC Tryz.prog 170 [.d (.fs 1 (vI bad)),.d (.it .i64 (d.nx+1-1))] (.d (.bl (decide (d.nx∈bad)))):=by
  have:=QBp bad (d.nx+1-1) hb
  rwa [show decide (d.nx+1-1∈bad)=decide (d.nx∈bad) by rw[jw]]at this
 by_cases h:d.nx∈bad
 ·rw [decide_eq_true h]at hin;rw[if_pos h,if_pos h];refine QL i64 λT=>?_;(repeat' (conv=>whnf);first|refine cEk hin ?_|refine cI QIz ?_|refine gOI ?_|intro x hx hu|intro h|apply sS);all_goals try omega
  all_goals exact QH
 ·rw [decide_eq_false h]at hin;rw[if_neg h,if_neg h];refine QL i64 λT=>?_;(repeat' (conv=>whnf);first|refine cEk hin ?_|refine cI QIz ?_|refine gOI ?_|intro x hx hu|intro h|apply sS);all_goals try omega
  conv=>whnf
  refine⟨⟨[(2,.d (.it .i64 0))],Qp bad (YX d)++Qr 1 [0] T,30⟩,Wk.vwL (ai (Vw.eq rfl) trivial) (ai (VwO.cells _ _ _ (.cons (Vw.eq rfl) rfl (.cons (Vw.eq rfl) rfl (.cons (Vw.eq rfl) rfl (.cons (Vw.ts' rfl) rfl (.cons (Vw.eq rfl) rfl (.cons (Vw.eq rfl) rfl .nil))))))) (ai (VwO.same _) (ai (VwO.same _) trivial))) rfl,rfl,rr,rr⟩
theorem QPZ(h:Fd bad d N)(a c:Plc)(x:Ent)(ha:0<=a.k/\a.k<24)(hc: -1<=c.k/\c.k<24):
  FnH Tryz.prog 147 [.ptr 5 0,.dg 3 (QKU a),.dg 3 (QKU c),.dg 4 (Xi x)] (Qa b bad d) 6 [0,5] (.d (.it .i64 (runP bad d (QHc (rdS (some d)) a c x)).2)) (Qa b bad (runP bad d (QHc (rdS (some d)) a c x)).1) 6:=by
 have hK:=QHo d h.ok;have hfe:=λn=>QCX (f:=rdS (some d)) (n:=n);unfold QHc;generalize frE (rdS (some d))=oe at*
 have hS:=JM c;have g1:=QAe [] (by simp) a.k om x c.fo;have g2:=fun(k:Int) (hk:0<=k/\k<24)=>QAe [] (by simp) k om x c.fo;obtain⟨af,an,ak⟩:=a;obtain⟨cf,cn,ck⟩:=c;obtain⟨xu,xp,xn,xt⟩:=x;dsimp only at*
 replace hS:FnC Tryz.prog 146 [.dg 3 [.it .i64 cf,.st cn,.it .i64 ck]] (.d (.bl (decide (0<=ck)))):=hS;show FnH _ _ [.ptr 5 0,.dg 3 [.it .i64 af,.st an,.it .i64 ak],.dg 3 [.it .i64 cf,.st cn,.it .i64 ck],.dg 4 [.bl xu,.it .i64 xp,.st xn,.it .i64 xt]] _ _ _ _ _ _;have go3:∀k:Int,0<=k/\k<24->FnH Tryz.prog 130 [.ptr 5 0,.d (.fs 37 [JK (.wr ⟨17+k,Qh ⟨xu,xp,xn,xt⟩,3,cf,0⟩),JK .bar,JK (.wr ⟨17+ak,Qh ZD,3,af,0⟩)])] (Qa b bad d) 6 [0,5] (.d (.it .i64 (Q4 bad d [.wr ⟨17+k,Qh ⟨xu,xp,xn,xt⟩,3,cf,0⟩,.bar,.wr ⟨17+ak,Qh ZD,3,af,0⟩]).2)) (Qa b bad (Q4 bad d [.wr ⟨17+k,Qh ⟨xu,xp,xn,xt⟩,3,cf,0⟩,.bar,.wr ⟨17+ak,Qh ZD,3,af,0⟩]).1) 6:=λk hk=>
  QD3 (b:=b) h [.wr ⟨17+k,Qh ⟨xu,xp,xn,xt⟩,3,cf,0⟩,.bar,.wr ⟨17+ak,Qh ZD,3,af,0⟩] (λs hs=>by
   simp only[zi,xq,or_false]at hs;rcases hs with rfl|rfl|rfl
   ·exact XZ k hk _ _
   ·trivial
   ·exact XZ ak ha _ _) (by simp)
 by_cases c1:ck<0
 ·rw [decide_eq_false om]at hS;by_cases c2:af=cf
  ·subst c2;rw[if_pos ⟨c1,rfl⟩,Z8];have g3:=QD3 (b:=b) h [.wr ⟨17+ak,Qh ⟨xu,xp,xn,xt⟩,3,af,0⟩] (λs hs=>by
    simp only[zi,xq,or_false]at hs;rw[hs];exact XZ ak ha _ _) (by simp)
   generalize (⟨17+ak,Qh ⟨xu,xp,xn,xt⟩,3,af,0⟩:Wr)=w1 at*
   rw[xf]at g1;refine QL QOo λT=>?_;(repeat' (conv=>whnf);first|refine cEk hS ?_|refine CallI.hp g3 [0,1,2,3,4,5] ?_|((refine CallI.wk (Wk.nlTs 12 0 1 37 243 wu wu) ⟨_,_,_,_,_,_,rfl,rfl,rfl,rfl⟩ ?_);refine CallI.h g1 [12,13] ?_)|refine gOI ?_|intro x hx hu|intro h|apply sS);exact QH
  ·rw [if_neg (λx=>c2 x.2),if_pos c1];cases oe with
   |none=>
    replace hK:FnC Tryz.prog 157 [.d (Qg (some d))] (.tup [.d (.it .i64 0),.d (.bl false)]):=hK;dsimp only;rw[ZA (by decide)];refine QL QOo λT=>?_;(repeat' (conv=>whnf);first|refine cEk hS ?_|refine rFk hK ?_|refine gOI ?_|intro x hx hu|intro h|apply sS);exact QH
   |some q=>
    replace hK:FnC Tryz.prog 157 [.d (Qg (some d))] (.tup [.d (.it .i64 (q:Nat)),.d (.bl true)]):=hK;have hq:=hfe q rfl;dsimp only;rw[Z8];have g3:=go3 (q:Nat) ⟨by omega,by omega⟩;have g2:=g2 (q:Nat) ⟨by omega,by omega⟩;generalize (⟨17+(q:Nat),Qh ⟨xu,xp,xn,xt⟩,3,cf,0⟩:Wr)=w1 at*
    rw[xf]at g2;have g4:=QKL [.wr w1] (by simp);have g5:=QAe [.wr w1,.bar] (by simp) ak om ZD af;rw[QCy]at g5;generalize (⟨17+ak,Qh ZD,3,af,0⟩:Wr)=w2 at*
    refine QL QOo λT=>?_;(repeat' (conv=>whnf);first|refine cEk hS ?_|refine rFk hK ?_|refine CallI.hp g3 [0,1,2,3,4,5] ?_|refine CallI.h g4 [12,13] ?_|refine CallI.h g5 [12,13] ?_|((refine CallI.wk (Wk.nlTs 12 0 1 37 243 wu wu) ⟨_,_,_,_,_,_,rfl,rfl,rfl,rfl⟩ ?_);refine CallI.h g2 [12,13] ?_)|refine gOI ?_|intro x hx hu|intro h|apply sS);exact QH
 ·rw [decide_eq_true om]at hS;rw[if_neg (λx=>c1 x.1),if_neg c1];dsimp only;rw[Z8,show((ck.toNat:Nat):Int)=ck by omega];have g3:=go3 ck om;have g2:=g2 ck om;generalize (⟨17+ck,Qh ⟨xu,xp,xn,xt⟩,3,cf,0⟩:Wr)=w1 at*
  rw[xf]at g2;have g4:=QKL [.wr w1] (by simp);have g5:=QAe [.wr w1,.bar] (by simp) ak om ZD af;rw[QCy]at g5;generalize (⟨17+ak,Qh ZD,3,af,0⟩:Wr)=w2 at*
  refine QL QOo λT=>?_;(repeat' (conv=>whnf);first|refine cEk hS ?_|refine CallI.hp g3 [0,1,2,3,4,5] ?_|refine CallI.h g4 [12,13] ?_|refine CallI.h g5 [12,13] ?_|((refine CallI.wk (Wk.nlTs 12 0 1 37 243 wu wu) ⟨_,_,_,_,_,_,rfl,rfl,rfl,rfl⟩ ?_);refine CallI.h g2 [12,13] ?_)|refine gOI ?_|intro x hx hu|intro h|apply sS);exact QH
theorem QRb(p q:List UInt8)(hp:p.length<=100000)(hq:q.length<=100000):FnC Tryz.prog 143 [.d (.st p),.d (.st q)] (.d (.it .i64 (if(Zq p).2.2≠0 then(Zq p).2.2 else(Zq q).2.2))):=by
 have h1:=QI5 p hp;have h2:=QI5 q hq;rw[QGH]at h1 h2;generalize Zq p=u at*
 generalize Zq q=v at*
 obtain⟨u1,u2,u3⟩:=u;obtain⟨v1,v2,v3⟩:=v;dsimp only at*
 replace h1:FnC Tryz.prog 181 [.d (.st p)] (.tup [.d (.st u1),.d (.st u2),.d (.it .i64 u3)]):=h1;replace h2:FnC Tryz.prog 181 [.d (.st q)] (.tup [.d (.st v1),.d (.st v2),.d (.it .i64 v3)]):=h2;by_cases c1:u3=0
 ·subst c1;rw[if_neg (by simp)];by_cases c2:v3=0
  ·subst c2;refine QJ QQ5 ?_;(repeat' (conv=>whnf);first|refine cEk h1 ?_|refine cEk h2 ?_|refine cI QQ8 ?_|with_reducible refine Q7.unroll QB 3 ?_|refine gOI ?_|intro x hx hu|intro h|apply sS);rfl
  ·refine QJ QQ5 ?_;(repeat' (conv=>whnf);first|refine cEk h1 ?_|refine cEk h2 ?_|refine cI QQ8 ?_|with_reducible refine Q7.unroll QB 3 ?_|refine gOI ?_|intro x hx hu|intro h|apply sS);rfl
 ·rw [if_pos c1];refine QJ QQ5 ?_;(repeat' (conv=>whnf);first|refine cEk h1 ?_|refine cEk h2 ?_|refine cI QQ8 ?_|with_reducible refine Q7.unroll QB 3 ?_|refine gOI ?_|intro x hx hu|intro h|apply sS);rfl
theorem QNR(a b:List (List UInt8))(ha:a.length<=100000):FnC Tryz.prog 227 [.d (.fs 1 (a.map stL)),.d (.fs 1 (b.map stL))] (.d (.bl (decide (a=b)))):=by
 have hla:(a.map stL).length=a.length:=zb ..;have hlb:(b.map stL).length=b.length:=zb ..;refine QJ QUy ?_;by_cases he:a.length=b.length
 ·(repeat' (conv=>whnf);first|refine QA ?_|intro x hx hu|intro h|apply sS);conv=>whnf
  refine QT QB (λk:Nat=>k<=a.length/\a.take k=b.take k) (λk=>⟨[(0,.d (.fs 1 (a.map stL))),(1,.d (.fs 1 (b.map stL))),(12,.d (.it .i64 (a.length:Nat))),(13,.d (.it .i64 (k:Nat)))],[],0⟩) (λk=>a.length-k) 0 ⟨z7 _,rfl⟩ ⟨ai rfl (ai rfl (ai (QK om) rr)),trivial,rfl⟩ ?_;intro k ⟨k1,k2⟩;rcases yj k a.length with hkl|hkl
  ·obtain ⟨x,hx⟩:=Qo hkl;obtain⟨y,hy⟩:=Qo (l:=b) (k:=k) om;have h1:x=y->a.take (k+1)=b.take (k+1):=λh=>by rw[QW hx,QW hy,k2,h]
   have h2:¬x=y->decide (a=b)=false:=λh=>decide_eq_false λhab=>h (by
    rw[hab,hy]at hx;exact(za hx).symm)
   (repeat' (conv=>whnf);first|refine QA ?_|intro x hx hu|intro h|apply sS);all_goals first
    |(refine again (k+1) ⟨by omega,h1 (by assumption)⟩ (by first|omega|(dsimp only;omega)) (ai rfl (ai rfl (ai rfl (ai (QK om) trivial)))) trivial rfl;done)
    |exact ZW (h2 (by assumption)).symm
    |exact ZW (h2 (λh=>by simp_all)).symm
  ·have h3:decide (a=b)=true:=decide_eq_true (by
    have e1:a.take k=a:=z8 om;have e2:b.take k=b:=z8 om;rw[<-e1,k2,e2])
   (repeat' (conv=>whnf);first|refine QA ?_|intro x hx hu|intro h|apply sS);exact ZW h3.symm
 ·(repeat' (conv=>whnf);first|refine QA ?_|intro x hx hu|intro h|apply sS);exact ZW (decide_eq_false λhab=>he (by rw[hab])).symm
theorem QKd{p q:List UInt8}(h:¬((QO p).2=0/\(QO q).2=0/\(QO q).1.length<=(QO p).1.length)):QDI p q=false:=decide_eq_false λx=>h ⟨x.1,x.2.1,x.2.2.1⟩
theorem QNS(p q:List UInt8)(hp:p.length<=100000)(hq:q.length<=100000):FnC Tryz.prog 183 [.d (.st p),.d (.st q)] (.d (.bl (QDI p q))):=by
 have h1:=XD p hp;have h2:=XD q hq;have hl1:=Zf p;have hl2:=Zf q;have hno:= @QKd p q;have hE:=QNR ((QO p).1.take (QO q).1.length) (QO q).1 (by rw[zy];omega);have hyes:(QO p).2=0->(QO q).2=0->(QO q).1.length<=(QO p).1.length->QDI p q=decide ((QO p).1.take (QO q).1.length=(QO q).1):=λa b c=>by
  unfold QDI;simp only[a,b,c,true_and]
 generalize QDI p q=r at*
 generalize QO p=u at*
 generalize QO q=v at*
 obtain⟨l1,e1⟩:=u;obtain⟨l2,e2⟩:=v;dsimp only at*
 have hla:(l1.map stL).length=l1.length:=zb ..;have hlb:(l2.map stL).length=l2.length:=zb ..;replace h1:FnC Tryz.prog 53 [.d (.st p)] (.tup [.d (.fs 1 (l1.map stL)),.d (.it .i64 e1)]):=h1;replace h2:FnC Tryz.prog 53 [.d (.st q)] (.tup [.d (.fs 1 (l2.map stL)),.d (.it .i64 e2)]):=h2;by_cases c:e1=0/\e2=0/\l2.length<=l1.length
 ·have hr:=hyes c.1 c.2.1 c.2.2;have c1:=c.1;have c2:=c.2.1;have c3:=c.2.2;have ht:(l1.take l2.length).map stL=(l1.map stL).take (((l2.map stL).length:Nat):Int).toNat:=by
   rw[uz,hlb];rfl
  rw[ht]at hE;refine QJ QSz ?_;(repeat' (conv=>whnf);first|refine cEk h1 ?_|refine cEk h2 ?_|refine cEk hE ?_|refine QA ?_|intro x hx hu|intro h|apply sS);all_goals try omega
  all_goals exact ZW hr.symm
 ·have hr:=hno c;refine QJ QSz ?_;(repeat' (conv=>whnf);first|refine cEk h1 ?_|refine cEk h2 ?_|refine QA ?_|intro x hx hu|intro h|apply sS);all_goals try omega
  all_goals exact ZW hr.symm
theorem QLq(p q:List UInt8)(hp:p.length<=100000)(hq:q.length<=100000):FnC Tryz.prog 140 [.d (.st p),.d (.st q)] (.d (.bl (QDI p q))):=by
 have h1:=XX p hp;have h2:=XX q hq;have hl1:=Zf p;have hl2:=Zf q;have hno:= @QKd p q;have hyes:(QO p).2=0->(QO q).2=0->(QO q).1.length<=(QO p).1.length->QDI p q=decide ((QO p).1.take (QO q).1.length=(QO q).1):=λa b c=>by
  unfold QDI;simp only[a,b,c,true_and]
 generalize QDI p q=r at*
 generalize QO p=u at*
 generalize QO q=v at*
 obtain⟨l1,e1⟩:=u;obtain⟨l2,e2⟩:=v;dsimp only at*
 have hla:(l1.map stL).length=l1.length:=zb ..;have hlb:(l2.map stL).length=l2.length:=zb ..;replace h1:FnC Tryz.prog 120 [.d (.st p)] (.tup [.d (.fs 1 (l1.map stL)),.d (.it .i64 e1)]):=h1;replace h2:FnC Tryz.prog 120 [.d (.st q)] (.tup [.d (.fs 1 (l2.map stL)),.d (.it .i64 e2)]):=h2;by_cases c:e1=0/\e2=0/\l2.length<=l1.length
 ·have hr:=hyes c.1 c.2.1 c.2.2;have c1:=c.1;have c2:=c.2.1;have c3:=c.2.2;refine QJ QSp ?_;(repeat' (conv=>whnf);first|refine cEk h1 ?_|refine cEk h2 ?_|refine QA ?_|intro x hx hu|intro h|apply sS);all_goals try omega
  conv=>whnf
  refine QT QB (λk:Nat=>k<=l2.length/\l1.take k=l2.take k) (λk=>⟨[(5,.d (.fs 1 (l1.map stL))),(7,.d (.fs 1 (l2.map stL))),(9,.d (.it .i64 (k:Nat)))],[],0⟩) (λk=>l2.length-k) 0 ⟨z7 _,rfl⟩ ⟨rr,trivial,rfl⟩ ?_;intro k ⟨k1,k2⟩;rcases yj k l2.length with hkl|hkl
  ·obtain ⟨y,hy⟩:=Qo hkl;obtain⟨x,hx⟩:=Qo (l:=l1) (k:=k) om;have h1:x=y->l1.take (k+1)=l2.take (k+1):=λh=>by rw[QW hx,QW hy,k2,h]
   have h2:¬x=y->r=false:=λh=>by
    rw[hr];refine decide_eq_false λhab=>h ?_;have:(l1.take l2.length)[k]? =some x:=by rw[wb,if_pos hkl];exact hx
    rw[hab,hy]at this;exact(za this).symm
   (repeat' (conv=>whnf);first|refine QA ?_|intro x hx hu|intro h|apply sS);all_goals first
    |(refine again (k+1) ⟨by omega,h1 (by assumption)⟩ (by first|omega|(dsimp only;omega)) (ai rfl (ai rfl (ai (QK om) trivial))) trivial rfl;done)
    |exact ZW (h2 (by assumption)).symm
    |exact ZW (h2 (λh=>by simp_all)).symm
  ·have h3:r=true:=by
    rw[hr];refine decide_eq_true ?_;have e:l2.length=k:=by omega
    rw[e,k2,z8 om]
   (repeat' (conv=>whnf);first|refine QA ?_|intro x hx hu|intro h|apply sS);exact ZW h3.symm
 ·have hr:=hno c;refine QJ QSp ?_;(repeat' (conv=>whnf);first|refine cEk h1 ?_|refine cEk h2 ?_|refine QA ?_|intro x hx hu|intro h|apply sS);all_goals try omega
  all_goals exact ZW hr.symm
theorem QLr(frm tq:List UInt8)(hp:frm.length<=100000)(hq:tq.length<=100000):FnC Tryz.prog 145 [.d (.st tq),.d (.st frm)] (.d (.bl (QJA frm tq))):=by
 have h1:=XD frm hp;have h2:=XD tq hq;have h3:=QNS tq frm hq hp;have hl1:=Zf frm;have hl2:=Zf tq;unfold QJA;generalize QDI tq frm=r at*
 generalize QO frm=u at*
 generalize QO tq=v at*
 obtain⟨l1,e1⟩:=u;obtain⟨l2,e2⟩:=v;dsimp only at*
 have hla:(l1.map stL).length=l1.length:=zb ..;have hlb:(l2.map stL).length=l2.length:=zb ..;replace h1:FnC Tryz.prog 53 [.d (.st frm)] (.tup [.d (.fs 1 (l1.map stL)),.d (.it .i64 e1)]):=h1;replace h2:FnC Tryz.prog 53 [.d (.st tq)] (.tup [.d (.fs 1 (l2.map stL)),.d (.it .i64 e2)]):=h2;cases r with
 |true=>
  refine QJ QSq ?_;(repeat' (conv=>whnf);first|refine cEk h1 ?_|refine cEk h2 ?_|refine cEk h3 ?_|refine QA ?_|intro x hx hu|intro h|apply sS);rfl
 |false=>
  have hb:decide (((l2.map stL).length:Int)>((l1.map stL).length:Int))=(false||decide (l1.length<l2.length)):=by
   rw[hla,hlb,ul,x8,decide_eq_true_eq,decide_eq_true_eq];omega
  refine QJ QSq ?_;(repeat' (conv=>whnf);first|refine cEk h1 ?_|refine cEk h2 ?_|refine cEk h3 ?_|refine QA ?_|intro x hx hu|intro h|apply sS);exact ZW hb
theorem QJI(frm tq:List UInt8)(hp:frm.length<=100000)(hq:tq.length<=100000):FnC Tryz.prog 87 [.d (.st frm),.d (.st tq)] (.d (.bl (QJA frm tq))):=by
 have h1:=XX frm hp;have h2:=XX tq hq;have h3:=QLq tq frm hq hp;have hl1:=Zf frm;have hl2:=Zf tq;unfold QJA;generalize QDI tq frm=r at*
 generalize QO frm=u at*
 generalize QO tq=v at*
 obtain⟨l1,e1⟩:=u;obtain⟨l2,e2⟩:=v;dsimp only at*
 have hla:(l1.map stL).length=l1.length:=zb ..;have hlb:(l2.map stL).length=l2.length:=zb ..;replace h1:FnC Tryz.prog 120 [.d (.st frm)] (.tup [.d (.fs 1 (l1.map stL)),.d (.it .i64 e1)]):=h1;replace h2:FnC Tryz.prog 120 [.d (.st tq)] (.tup [.d (.fs 1 (l2.map stL)),.d (.it .i64 e2)]):=h2;cases r with
 |true=>
  refine QJ i87 ?_;(repeat' (conv=>whnf);first|refine cEk h1 ?_|refine cEk h2 ?_|refine cEk h3 ?_|refine QA ?_|intro x hx hu|intro h|apply sS);rfl
 |false=>
  have hb:decide (((l2.map stL).length:Int)>((l1.map stL).length:Int))=(false||decide (l1.length<l2.length)):=by
   rw[hla,hlb,ul,x8,decide_eq_true_eq,decide_eq_true_eq];omega
  refine QJ i87 ?_;(repeat' (conv=>whnf);first|refine cEk h1 ?_|refine cEk h2 ?_|refine cEk h3 ?_|refine QA ?_|intro x hx hu|intro h|apply sS);exact ZW hb
end Go.Proofs.YtikgcbioagmkkaaGreatDoor
