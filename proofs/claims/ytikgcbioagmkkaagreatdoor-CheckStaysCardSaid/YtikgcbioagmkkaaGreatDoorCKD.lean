/- Contracts of the functions that the law reaches, and the law. Conditions: none. -/
import Derived.Test.YtikgcbioagmkkaaGreatDoorCKA
import Derived.Test.YtikgcbioagmkkaaGreatDoorCKB
import Derived.Test.YtikgcbioagmkkaaGreatDoorCSD
import Derived.Test.YtikgcbioagmkkaaGreatDoorCSC
import Derived.Test.YtikgcbioagmkkaaGreatDoorCKC
import Derived.Test.YtikgcbioagmkkaaGreatDoorCSE
set_option maxRecDepth 100000
set_option linter.all false
set_option maxHeartbeats 16000000
namespace Go.Proofs.YtikgcbioagmkkaaGreatDoor
open Go.Sy
def QDL(s:List UInt8):List UInt8:=if(s.getD 3 0).toNat<=16 then(s.drop 16).take (s.getD 3 0).toNat else []
def XZ(s:List UInt8):Ent:=⟨true,(s.getD 1 0).toNat,QDL s,(s.getD 2 0).toNat⟩
def ZG:Ent:=⟨false,0,[],0⟩
def QEe(s:List UInt8):Prop:=RE (XZ s)/\s=Y0 (XZ s)
instance(s:List UInt8):Decidable (QEe s):=by unfold QEe;infer_instance
def Jo(s:List UInt8):Ent:=if QEe s then XZ s else ZG
def Q5(s:List UInt8):Bool:=decide (s=Qz\/QEe s)
def QFS(s:List UInt8):AV:= .tup [.dg 4 (Qt (Jo s)),.d (.bl (Q5 s))]
theorem QGg:¬QEe Qz:=by
 intro h;have h1:=h.1;unfold RE XZ at h1;rcases h1 with h1|h1
 ·cases h1.1
 ·have:(1:Int)<=((Qz.getD 2 0).toNat:Int):=h1.2.2.2.1;revert this;decide
theorem QGh(s:List UInt8)(hs:s.length=32):FnC Tryz.prog 167 [.dg 32 (QJ s)] (QFS s):=by
 have hz:=QOh s hs;have c1:=(s.getD 1 0).toNat_lt;have c2:=(s.getD 2 0).toNat_lt;have c3:=(s.getD 3 0).toNat_lt;have hc:=QQm s hs (s.getD 3 0).toNat om;have he:=QMK (XZ s);unfold QFS;by_cases h0:s=Qz
 ·subst h0;rw[decide_eq_true rfl]at hz;rw[show Jo Qz=ZG from if_neg QGg,show Q5 Qz=true from decide_eq_true (.inl rfl)];refine QK QOW ?_;(repeat' (conv=>whnf);first|refine cEk hz ?_|with_reducible refine AtA.mk' ?_|refine QC ?_|intro x hx hu|intro h|apply sS);all_goals rfl
 rw[decide_eq_false h0]at hz;have hEq:Qt (XZ s)=[.bl true,.it .i64 (s.getD 1 0).toNat,.st (QDL s),.it .i64 (s.getD 2 0).toNat]:=rfl;by_cases h1:RE (XZ s)
 ·have hel:=QGa _ h1;rw[QK8,if_pos h1]at he;have heq:=eqS s (Y0 (XZ s)) (by rw[hs,hel]);by_cases h2:s=Y0 (XZ s)
  ·rw [show Jo s=XZ s from if_pos ⟨h1,h2⟩,show Q5 s=true from decide_eq_true (.inr ⟨h1,h2⟩)];rw[decide_eq_true h2]at heq;refine QK QOW ?_;(repeat' (conv=>whnf);first|refine cEk hz ?_|refine cEk he ?_|refine Zk.mk ⟨_,hc,?_⟩|(refine QAb QE mixed ?_)|refine XU.mk ((QJ (Y0 (XZ s))).map AV.d) (JF _) ?_|refine AtA.eq (Ql rfl (Qm hs 1 (by decide))) ?_|refine AtA.eq (Ql rfl (Qm hs 2 (by decide))) ?_|refine AtA.eq (Ql rfl (Qm hs 3 (by decide))) ?_|refine AtA.eq (ZN rfl rfl hs) ?_|refine AtA.eq (ZN rfl rfl hel) ?_|refine X8 (Jy _ _ hs hel) ?_|((with_reducible refine QJV ?_);refine⟨QDL s,rfl,?_⟩)|refine QC ?_|intro x hx hu|intro h|apply sS);all_goals rfl
  ·rw [show Jo s=ZG from if_neg (λq=>h2 q.2),show Q5 s=false from decide_eq_false (λq=>q.elim h0 λq=>h2 q.2)];rw[decide_eq_false h2]at heq;refine QK QOW ?_;(repeat' (conv=>whnf);first|refine cEk hz ?_|refine cEk he ?_|refine Zk.mk ⟨_,hc,?_⟩|(refine QAb QE mixed ?_)|refine XU.mk ((QJ (Y0 (XZ s))).map AV.d) (JF _) ?_|refine AtA.eq (Ql rfl (Qm hs 1 (by decide))) ?_|refine AtA.eq (Ql rfl (Qm hs 2 (by decide))) ?_|refine AtA.eq (Ql rfl (Qm hs 3 (by decide))) ?_|refine AtA.eq (ZN rfl rfl hs) ?_|refine AtA.eq (ZN rfl rfl hel) ?_|refine X8 (Jy _ _ hs hel) ?_|((with_reducible refine QJV ?_);refine⟨QDL s,rfl,?_⟩)|refine QC ?_|intro x hx hu|intro h|apply sS);all_goals rfl
 ·have hel:Qz.length=32:=rfl;rw[QK8,if_neg h1]at he;rw[show Jo s=ZG from if_neg (λq=>h1 q.1),show Q5 s=false from decide_eq_false (λq=>q.elim h0 λq=>h1 q.1)];refine QK QOW ?_;(repeat' (conv=>whnf);first|refine cEk hz ?_|refine cEk he ?_|refine Zk.mk ⟨_,hc,?_⟩|(refine QAb QE mixed ?_)|refine XU.mk ((QJ Qz).map AV.d) (JF _) ?_|refine AtA.eq (Ql rfl (Qm hs 1 (by decide))) ?_|refine AtA.eq (Ql rfl (Qm hs 2 (by decide))) ?_|refine AtA.eq (Ql rfl (Qm hs 3 (by decide))) ?_|refine AtA.eq (ZN rfl rfl hs) ?_|refine AtA.eq (ZN rfl rfl hel) ?_|refine X8 (Jy _ _ hs hel) ?_|((with_reducible refine QJV ?_);refine⟨QDL s,rfl,?_⟩)|refine QC ?_|intro x hx hu|intro h|apply sS);all_goals rfl
structure Wr where
 a:Int
 s:List UInt8
 k:Int
 i:Int
 e:Int
deriving DecidableEq
def Q6(w:Wr):List D:=[.it .i64 w.a]++QJ w.s++[.it .i64 w.k,.it .i64 w.i,.it .i64 w.e]
structure Dk where
 nx:Int
 safe:List (List UInt8)
 wait:List Wr
 log:List (List D)
 ep:Int
def QDM(d:Dk):List D:=[.an,.it .i64 d.nx,.fs 32 (d.safe.map QJ),.fs 36 (d.wait.map Q6),.fs 38 d.log,.it .i64 d.ep]
def QQ:Option Dk->D
 |none=> .ot (.pointer none)
 |some d=> .fp 6 (QDM d)
def Zs:Option Dk->Prop
 |none=>True
 |some d=>(∀s∈d.safe,s.length=32)/\(∀w∈d.wait,w.s.length=32)/\d.safe.length<=65/\d.wait.length<=100000
def QJl:Option Dk->Bool
 |none=>true
 |some d=>decide (d.safe.length=0)
def QFT(d:Option Dk)(n:Int):Prop:=
 match d with
 |none=>False
 |some d=>0<=n/\n<d.safe.length
instance(d:Option Dk)(n:Int):Decidable (QFT d n):=by unfold QFT;cases d<;>infer_instance
def YQ(n:Int)(w:List Wr):Option (List UInt8):=(w.reverse.find? (λx=>decide (x.a=n))).map (·.s)
def rdS(d:Option Dk)(n:Int):List UInt8:=
 match d with
 |none=>Qz
 |some d=>if 0<=n/\n<d.safe.length then(match YQ n d.wait with|some s=>s|none=>d.safe.getD n.toNat Qz)else Qz
def rdE(d:Option Dk)(n:Int):Int:=if QFT d n then 0 else 1
theorem X6{d:Option Dk}(h:Zs d)(n:Int):(rdS d n).length=32:=by
 cases d with
 |none=>rfl
 |some d=>
  obtain⟨h1,h2,_⟩:=h;simp only[rdS];split
  ·split
   ·rename_i s hs;simp only[YQ,ui]at hs;obtain⟨w,hw,rfl⟩:=hs;exact h2 w (by simpa using wl hw)
   ·rw [zo];cases hq:d.safe[n.toNat]? with
    |none=>rfl
    |some s=>exact h1 s (yw hq)
  ·rfl
theorem QJm(d:Option Dk):FnC Tryz.prog 57 [.d (QQ d)] (.d (.bl (QJl d))):=by
 cases d with
 |none=>
  refine QK i57 ?_;(repeat' (conv=>whnf);first|refine QC ?_|intro x hx hu|intro h|apply sS);rfl
 |some d=>
  refine QK i57 ?_;(repeat' (conv=>whnf);first|refine QC ?_|intro x hx hu|intro h|apply sS);refine Xo ?_;show(((d.safe.map QJ).length:Int)==0)=decide (d.safe.length=0);rw[ze,wj,beq_iff_eq,decide_eq_true_eq];omega
theorem QQo(d:Option Dk)(n:Int):FnC Tryz.prog 51 [.d (QQ d),.d (.it .i64 n)] (.d (.bl (decide (QFT d n)))):=by
 have hn:=QJm d;cases d with
 |none=>
  refine QK i51 ?_;(repeat' (conv=>whnf);first|refine cEk hn ?_|refine QC ?_|intro x hx hu|intro h|apply sS);rfl
 |some d=>
  by_cases h:d.safe.length=0
  ·rw [show QJl (some d)=true from decide_eq_true h]at hn;refine QK i51 ?_;(repeat' (conv=>whnf);first|refine cEk hn ?_|refine QC ?_|intro x hx hu|intro h|apply sS);exact YX (by show¬(0<=n/\n<d.safe.length);omega)
  ·rw [show QJl (some d)=false from decide_eq_false h]at hn;refine QK i51 ?_;(repeat' (conv=>whnf);first|refine cEk hn ?_|refine QC ?_|intro x hx hu|intro h|apply sS);all_goals first
    |exact YX (by show¬(0<=n/\n<d.safe.length);omega)
    |exact QBr (by show n<((d.safe.map QJ).length:Int)↔(0<=n/\n<(d.safe.length:Int));rw[ze];omega)
theorem QBt{α β:Type}{e:α->β}{l:List α}{n:Int}{x:α}{K:β->Prop}(h0:0<=n/\n<l.length)(hx:l[n.toNat]? =some x)(h:K (e x)):
  (0<=n/\n<(l.map e).length)/\∀c,(l.map e)[n.toNat]? =some c->K c:=
 QKf h0 λy hy=>by rw[hx]at hy;obtain rfl:=za hy;exact h
variable {w:Wr}
theorem QMR(h:w.s.length=32):(Q6 w).length=36:=by unfold Q6;simp[XY,h]
variable {l:List D}
variable {n k i N j sz a q had M n0 n1 n2 n3 n4:Nat}
theorem QP8(h:l.length=n):l.map AV.d=[]++(l.take n).map AV.d++[]:=by
 rw[yd om,y6,xh]
theorem QIa{n:Int}{l:List Wr}(h:∀j,j<k->∀x,l.reverse[j]? =some x->x.a≠n)(hw:l.reverse[k]? =some w)(ha:w.a=n):YQ n l=some w.s:=by
 unfold YQ;have hk:=(yb.1 hw).1;rw[kf.2 ⟨by simpa using ha,k,hk,(yb.1 hw).2,λj hj=>by
  have:=h j hj _ (zk om);simpa using this⟩]
 rfl
theorem QGi{n:Int}{l:List Wr}(h:∀j,j<l.length->∀x,l.reverse[j]? =some x->x.a≠n):YQ n l=none:=by
 unfold YQ;rw[Option.map_eq_none_iff,jo];intro x hx;obtain⟨j,hj,rfl⟩:=uh hx;have:=h j (by simpa using hj) _ (zk hj);simpa using this
variable {d:Dk}
theorem hpd{n:Int}:QFT (some d) n↔(0<=n/\n<d.safe.length):=Iff.rfl
variable {ty:Ty}
theorem ldW(hs:w.s.length=32)(ha:ty.kd.agg=true)(hz:ty.size=32):ldA ty 1 ((Q6 w).map AV.d)= .dg 32 (QJ w.s):=by
 unfold ldA;rw[ha,cond_true,hz];have h1:(((Q6 w).map AV.d).drop 1).take 32=(QJ w.s).map AV.d:=by
  show((QJ w.s++_).map AV.d).take 32=_;rw[yh,ud (by rw[ze,XY,hs];exact zr _),yd (by rw[ze,XY,hs];exact zr _)]
 rw[h1];unfold QDo;rw[XB]
theorem QCw(d:Option Dk)(hd:Zs d)(n:Int):FnC Tryz.prog 12 [.d (QQ d),.d (.it .i64 n)] (.tup [.dg 32 (QJ (rdS d n)),.d (.it .i64 (rdE d n))]):=by
 have hh:=QQo d n;by_cases h:QFT d n
 rotate_left
 ·rw [decide_eq_false h]at hh;rw[show rdE d n=1 from if_neg h,show rdS d n=Qz by cases d with|none=>rfl|some d=>exact if_neg h];refine QK i12 ?_;(repeat' (conv=>whnf);first|refine cEk hh ?_|with_reducible refine AtA.mk' ?_|refine QC ?_|intro x hx hu|intro h|apply sS);rfl
 rw[decide_eq_true h]at hh;cases d with
 |none=>exact h.elim
 |some d=>
  obtain⟨hd1,hd2,hd3,hd4⟩:=hd;obtain⟨h0,h1⟩:=hpd.1 h;rw[show rdE (some d) n=0 from if_pos h,show rdS (some d) n=(match YQ n d.wait with|some s=>s|none=>d.safe.getD n.toNat Qz)from if_pos h];generalize hR:(match YQ n d.wait with|some s=>s|none=>d.safe.getD n.toNat Qz)=R;refine QK i12 ?_;(repeat' (conv=>whnf);first|refine cEk hh ?_|refine cI i52 ?_|with_reducible refine AtA.mk' ?_|refine gOI ?_|intro x hx hu|intro h|apply sS);conv=>whnf
  refine XN.intro QE QTf rfl rfl ?_;(repeat' (conv=>whnf);first|refine QC ?_|intro x hx hu|intro h|apply sS);have hwl:(d.wait.map Q6).length=d.wait.length:=ze ..;refine JS QE (λk:Nat=>k<=d.wait.length/\∀j,j<k->∀x,d.wait.reverse[j]? =some x->x.a≠n) (λk=>[(0,.yld 6),(1,.ptr 4 0),(3,.d (.it .i64 ((d.wait.length:Nat)-1-(k:Nat))))]) (λk=>d.wait.length-k) 0 ⟨yc _,λj hj=>by omega⟩ ⟨rfl,rfl,QM (by rw[hwl];omega),trivial⟩ rfl ?_;intro k ⟨k1,k2⟩;rcases yr k d.wait.length with hkl|hkl
  ·obtain ⟨w,hw⟩:=Q8 (l:=d.wait) (k:=d.wait.length-1-k) om;have hw':d.wait[((d.wait.length:Int)-1-k).toNat]? =some w:=by rw[show((d.wait.length:Int)-1-k).toNat=d.wait.length-1-k by omega];exact hw
   have hrev:d.wait.reverse[k]? =some w:=by rw[List.getElem?_reverse hkl];exact hw
   have hws:=hd2 w (yw hw);(repeat' (conv=>whnf);first|with_reducible refine Yr.intro QE wu wu wu ?_|refine XU.mk ((Q6 w).map AV.d) (QP8 (QMR hws)) ?_|refine XU.mk ((QJ w.s).map AV.d) (JF _) ?_|refine AtA.eq (ldW hws rfl rfl) ?_|with_reducible refine AtA.mk' ?_|with_reducible refine QBt (x:=w) om hw' ?_|refine QC ?_|intro x hx hu|intro h|apply sS)
   ·have:R=w.s:=by rw[<-hR,QIa k2 hrev (by assumption)]
    subst this;conv=>whnf
    conv in (ldA _ _ _)=>tactic=>exact ZN rfl rfl hws
    rfl
   ·refine QAa (k+1) ⟨by omega,λj hj x hx=>?_⟩ (by dsimp only;omega) (ai rfl (ai rfl (ai (QM om) trivial))) (by (repeat (first|exact trivial|refine ai rfl ?_))) rfl;rcases yr j k with hjk|hjk
    ·exact k2 j hjk x hx
    ·obtain rfl:j=k:=by omega
     obtain rfl:w=x:=za (hrev.symm.trans hx);assumption
  ·have:R=d.safe.getD n.toNat Qz:=by rw[<-hR,QGi (λj hj=>k2 j om)]
   obtain⟨s,hsn⟩:=Q8 (l:=d.safe) (k:=n.toNat) om;have hsl:=hd1 s (yw hsn);rw[zo,hsn]at this;have this:R=s:=this;rw[this];(repeat' (conv=>whnf);first|refine XU.mk ((QJ s).map AV.d) (QP8 (by rw[XY];exact hsl)) ?_|with_reducible refine AtA.mk' ?_|with_reducible refine QBt (x:=s) om hsn ?_|refine QC ?_|intro x hx hu|intro h|apply sS);conv=>whnf
   conv in (ldA _ _ _)=>tactic=>exact ZN rfl rfl hsl
   rfl
def QBE(s:List UInt8):Prop:=RI (Z8 s)/\s=QBs (Z8 s)
instance(s:List UInt8):Decidable (QBE s):=by unfold QBE;infer_instance
def Y5(s:List UInt8):Ino:=if QBE s then Z8 s else ZZ
theorem QEf(s:List UInt8):QFR s= .tup [.dg 6 (ZM (Y5 s)),.d (.bl (decide (QBE s)))]:=by
 unfold QFR Y5;by_cases h:QBE s
 ·have h':RI (Z8 s)/\s=QBs (Z8 s):=h;rw[if_pos h',if_pos h,decide_eq_true h]
 ·have h':¬(RI (Z8 s)/\s=QBs (Z8 s)):=h;rw[if_neg h',if_neg h,decide_eq_false h]
def QF(f:Int->List UInt8)(n:Int):Ino:=if 0<=n/\n<16 then Y5 (f (1+n))else ZZ
def QA(f:Int->List UInt8)(k:Int):Ent:=if 0<=k/\k<24 then Jo (f (17+k))else ZG
def imS(m:List (List UInt8))(n:Int):List UInt8:=m.getD n.toNat Qz
def QDN(m:List (List UInt8)):Prop:=∀s∈m,s.length=32
abbrev QAe(m:List (List UInt8)):D:= .fs 32 (m.map QJ)
theorem QP9(d:Option Dk)(hd:Zs d)(n:Int):FnC Tryz.prog 165 [.d (QQ d),.d (.it .i64 n)] (.dg 32 (QJ (rdS d n))):=by
 have hr:=QCw d hd n;have hl:=X6 hd n;refine QK QT0 ?_;(repeat' (conv=>whnf);first|refine cEk hr ?_|refine XU.mk ((QJ (rdS d n)).map AV.d) (JF _) ?_|refine AtA.eq (ZN rfl rfl hl) ?_|refine QC ?_|intro x hx hu|intro h|apply sS);conv=>whnf
 conv in (ldA _ _ _)=>tactic=>exact ZN rfl rfl hl
 rfl
theorem YD(d:Option Dk)(hd:Zs d)(n:Int):FnC Tryz.prog 111 [.d (QQ d),.d (.it .i64 n)] (.dg 6 (ZM (QF (rdS d) n))):=by
 by_cases h:0<=n/\n<16
 ·have ha:=QP9 d hd (1+n);have hi:=QGe (rdS d (1+n)) (X6 hd _);rw[QEf]at hi;rw[show QF (rdS d) n=Y5 (rdS d (1+n))from if_pos h];refine QK QSA ?_;(repeat' (conv=>whnf);first|refine cEk ha ?_|refine cEk hi ?_|refine QC ?_|intro x hx hu|intro h|apply sS);rfl
 ·rw [show QF (rdS d) n=ZZ from if_neg h];refine QK QSA ?_;by_cases h0:n<0;all_goals (repeat' (conv=>whnf);first|refine QC ?_|intro x hx hu|intro h|apply sS)
  all_goals first|omega|rfl
theorem XC(d:Option Dk)(hd:Zs d)(n:Int):FnC Tryz.prog 113 [.d (QQ d),.d (.it .i64 n)] (.dg 4 (Qt (QA (rdS d) n))):=by
 by_cases h:0<=n/\n<24
 ·have ha:=QP9 d hd (17+n);have hi:=QGh (rdS d (17+n)) (X6 hd _);rw[QFS]at hi;rw[show QA (rdS d) n=Jo (rdS d (17+n))from if_pos h];refine QK QSB ?_;(repeat' (conv=>whnf);first|refine cEk ha ?_|refine cEk hi ?_|refine QC ?_|intro x hx hu|intro h|apply sS);rfl
 ·rw [show QA (rdS d) n=ZG from if_neg h];refine QK QSB ?_;by_cases h0:n<0;all_goals (repeat' (conv=>whnf);first|refine QC ?_|intro x hx hu|intro h|apply sS)
  all_goals first|omega|rfl
def Q1(f:Int->List UInt8)(n:Int):Prop:=n=0\/∃k:Nat,k<24/\(QA f k).u=true/\(QA f k).t=n
instance(f:Int->List UInt8)(n:Int):Decidable (Q1 f n):=by unfold Q1;infer_instance
theorem QMS(d:Option Dk)(hd:Zs d)(n:Int):FnC Tryz.prog 192 [.d (QQ d),.d (.it .i64 n)] (.d (.bl (decide (Q1 (rdS d) n)))):=by
 have he:=λk=>XC d hd k;refine QK QT8 ?_;(repeat' (conv=>whnf);first|refine cI QQe ?_|with_reducible refine AtA.mk' ?_|refine gOI ?_|intro x hx hu|intro h|apply sS);conv=>whnf
 refine XN.intro QE QQh rfl rfl ?_;(repeat' (conv=>whnf);first|refine QC ?_|intro x hx hu|intro h|apply sS);refine JS QE (λk:Nat=>k<=24/\∀j:Nat,j<k->¬((QA (rdS d) j).u=true/\(QA (rdS d) j).t=n)) (λk:Nat=>[(0,.yld 5),(1,.ptr 3 0),(5,.d (.it .i64 (k:Nat)))]) (λk=>24-k) 0 ⟨yc _,λj hj=>by omega⟩ rr rfl ?_;intro k ⟨k1,k2⟩;rcases yr k 24 with hk|hk
 ·have hek:=he (k:Nat);cases hu:(QA (rdS d) k).u with
  |false=>
   have hek':Qt (QA (rdS d) k)=[.bl false,.it .i64 (QA (rdS d) k).p,.st (QA (rdS d) k).n,.it .i64 (QA (rdS d) k).t]:=by rw[Qt,hu]
   rw[hek']at hek;(repeat' (conv=>whnf);first|refine cEk hek ?_|refine QC ?_|intro x hx hu|intro h|apply sS);refine QAa (k+1) ⟨by omega,λj hj=>?_⟩ (by dsimp only;omega) (ai rfl (ai rfl (ai (QM om) trivial))) (by (repeat (first|exact trivial|refine ai rfl ?_))) rfl;rcases yr j k with hjk|hjk
   ·exact k2 j hjk
   ·obtain rfl:j=k:=by omega
    rw[hu];simp
  |true=>
   have hek':Qt (QA (rdS d) k)=[.bl true,.it .i64 (QA (rdS d) k).p,.st (QA (rdS d) k).n,.it .i64 (QA (rdS d) k).t]:=by rw[Qt,hu]
   rw[hek']at hek;(repeat' (conv=>whnf);first|refine cEk hek ?_|with_reducible refine Yr.intro QE wu wu wu ?_|refine QC ?_|intro x hx hu|intro h|apply sS)
   ·exact QML (.inr ⟨k,hk,hu,by assumption⟩)
   ·refine QAa (k+1) ⟨by omega,λj hj=>?_⟩ (by dsimp only;omega) (ai rfl (ai rfl (ai (QM om) trivial))) (by (repeat (first|exact trivial|refine ai rfl ?_))) rfl;rcases yr j k with hjk|hjk
    ·exact k2 j hjk
    ·obtain rfl:j=k:=by omega
     exact λhq=>(by assumption:¬_) hq.2
 ·(repeat' (conv=>whnf);first|refine QC ?_|intro x hx hu|intro h|apply sS);refine QJk ?_;rw[beq_iff_eq];refine⟨λh=> .inl h,λh=>h.elim id fun⟨j,hj,h1,h2⟩=>absurd ⟨h1,h2⟩ (k2 j om)⟩
def Yj:List UInt8:=[70,76,79,84,0,0,0,0,0,0,0,0,0,0,0,0,0,0,0,0,0,0,0,0,0,0,0,0,0,0,0,0]
theorem QGj:FnC Tryz.prog 101 [] (.dg 32 (QJ Yj)):=by
 refine QK QTe ?_;(repeat' (conv=>whnf);first|with_reducible refine AtA.mk' ?_|refine QC ?_|intro x hx hu|intro h|apply sS);rfl
theorem QMT:FnC Tryz.prog 154 [] (.dg 32 (QJ Yj)):=by
 have hf:=QFP 0 4;refine QK QTv ?_;(repeat' (conv=>whnf);first|refine QBe.vec ?_|refine OpX.conv QE rfl rfl wu wu wu (bll rfl) wu rfl wu rfl ?_|refine cEk hf ?_|refine cI QT9 ?_|refine cI QSI ?_|with_reducible refine AtA.mk' ?_|refine gOI ?_|intro x hx hu|intro h|apply sS);rfl
def J0(m:List (List UInt8)):Prop:=m.length=65/\imS m 0=Yj/\QBE (imS m 1)/\(Y5 (imS m 1)).k=2
instance(m:List (List UInt8)):Decidable (J0 m):=by unfold J0;infer_instance
variable {s:List UInt8}
theorem QCx(ha:ty.kd.agg=true)(hz:ty.size=32)(hs:s.length=32):ldD ty (QJ s)= .dg 32 (QJ s):=by
 unfold ldD;rw[ha,cond_true,hz,yd (by rw[XY,hs];exact zr _)]
variable {b fl:Bool}
theorem QMU{A B:Prop}(h:Spl b A B):Spl b A B:=h
theorem QUa(h:b=true):(!b)=false:=by rw[h];rfl
theorem QUb(h:b=false):(!b)=true:=by rw[h];rfl
theorem QLB(m:List (List UInt8))(hm:QDN m):FnC Tryz.prog 100 [.d (QAe m)] (.d (.bl (decide (J0 m)))):=by
 have hml:(m.map QJ).length=m.length:=ze ..;by_cases h:m.length=65
 ·obtain ⟨s0,hs0⟩:=Q8 (l:=m) (k:=0) om;obtain⟨s1,hs1⟩:=Q8 (l:=m) (k:=1) om;have l0:=hm s0 (yw hs0);have l1:=hm s1 (yw hs1);have e0:imS m 0=s0:=by unfold imS;rw[zo];show(m[0]?).getD _=_;rw[hs0];rfl
  have e1:imS m 1=s1:=by unfold imS;rw[zo];show(m[1]?).getD _=_;rw[hs1];rfl
  have hs0':m[(0:Int).toNat]? =some s0:=hs0;have hs1':m[(1:Int).toNat]? =some s1:=hs1;have hsup:=QMT;have hi:=QGe s1 l1;rw[QEf]at hi;have hP:J0 m↔(s0=Yj/\QBE s1/\(Y5 s1).k=2):=by unfold J0;rw[e0,e1];exact⟨λq=>q.2,λq=>⟨h,q⟩⟩
  have heq:=eqS s0 Yj (by rw[l0];rfl);have hlk:=Jy s0 Yj l0 rfl;by_cases h0:s0=Yj
  ·rw [decide_eq_true h0]at heq;by_cases h1:QBE s1;all_goals (
    first|rw[decide_eq_true h1]at hi|rw[decide_eq_false h1]at hi
    refine QK QQV ?_;(repeat' (conv=>whnf);first|with_reducible refine QBt (x:=s0) om hs0' ?_|with_reducible refine QBt (x:=s1) om hs1' ?_|refine AtA.eq (QCx rfl rfl l0) ?_|refine AtA.eq (QCx rfl rfl l1) ?_|refine Zk.mk ⟨_,hsup,?_⟩|refine cEk hsup ?_|refine cEk hi ?_|refine X8 hlk ?_|((with_reducible refine QMU ?_);refine Spl.no (QUa heq) ?_)|refine QC ?_|intro x hx hu|intro h|apply sS);all_goals first|exact YX (λq=>h1 (hP.1 q).2.1)|(refine QJk ?_;rw[beq_iff_eq,hP];exact⟨λq=>⟨h0,h1,q⟩,λq=>q.2.2⟩)|skip)
  ·rw [decide_eq_false h0]at heq;refine QK QQV ?_;(repeat' (conv=>whnf);first|with_reducible refine QBt (x:=s0) om hs0' ?_|with_reducible refine QBt (x:=s1) om hs1' ?_|refine AtA.eq (QCx rfl rfl l0) ?_|refine AtA.eq (QCx rfl rfl l1) ?_|refine Zk.mk ⟨_,hsup,?_⟩|refine cEk hsup ?_|refine cEk hi ?_|refine X8 hlk ?_|((with_reducible refine QMU ?_);refine Spl.yes (QUb heq) ?_)|refine QC ?_|intro x hx hu|intro h|apply sS);all_goals exact YX (λq=>h0 (hP.1 q).1)
 ·refine QK QQV ?_;(repeat' (conv=>whnf);first|refine QC ?_|intro x hx hu|intro h|apply sS);all_goals first|omega|exact YX (λq=>h q.1)
def Zu(g:Nat->UInt8):List UInt8:=[g 0,g 1,g 2,g 3,g 4,g 5,g 6,g 7,g 8,g 9,g 10,g 11,g 12,g 13,g 14,g 15,g 16,g 17,g 18,g 19,g 20,g 21,g 22,g 23,g 24,g 25,g 26,g 27,g 28,g 29,g 30,g 31]
theorem JZ(h:s.length=32):∃g,s=Zu g:=by
 refine⟨λi=>s.getD i 0,?_⟩;refine vy (by rw[h];rfl) λi h1 h2=>?_;have h3:Zu (λi=>s.getD i 0)=(List.range 32).map (λi=>s.getD i 0):=rfl;simp only[h3,zy,wh];rw[zo,zk h1];rfl
theorem QQp{K:AV->Prop}(h:K (.d (.it .i64 0))):QQI Tryz.prog 3 3 K:=⟨.i64,0,⟨.i64,Tryz.underlying3⟩,λw=>Tryz.zeroValue3 w,h⟩
def QGk(w:Wr):List D:=[.it .i64 1]++Q6 w++[.fs 2 []]
def okW(n:Nat)(w:Wr):Bool:=decide (0<=w.a/\w.a<n)
def wts(n:Nat)(ws:List Wr):List Wr:=(ws.filter (okW n)).map λw=> {w with e:=0}
def QCS(m:List (List UInt8))(ws:List Wr):Option Dk:=if 1<=m.length/\m.length<=65 then some ⟨ws.length,m,wts m.length ws,(wts m.length ws).map QGk,0⟩else none
def QQq(ws:List Wr):Prop:=∀w∈ws,w.s.length=32
def QBu(m:List (List UInt8))(ws:List Wr)(i:Nat):List Wr:=wts m.length (ws.take i)
theorem QDO(m:List (List UInt8))(ws:List Wr)(i:Nat):(QBu m ws i).length<=ws.length:=by
 unfold QBu wts;rw[ze];exact y9 (wq _ _) (by rw[z7];omega)
variable {ws:List Wr}
theorem QLC(m:List (List UInt8)){x:Wr}(hx:ws[i]? =some x):QBu m ws (i+1)=if 0<=x.a/\x.a<m.length then QBu m ws i++[{x with e:=0}]else QBu m ws i:=by
 unfold QBu wts;rw[ZF hx,x6,yh];by_cases h:0<=x.a/\x.a<m.length
 ·rw [if_pos h];have:okW m.length x=true:=decide_eq_true h;simp[this]
 ·rw [if_neg h];have:okW m.length x=false:=decide_eq_false h;simp[this]
def dA(m:List (List UInt8))(ws:List Wr)(i:Nat):S:=⟨[(0,.d (QAe m)),(1,.d (.fs 36 (ws.map Q6))),(5,.ptr 7 0),(7,.d (.it .i64 (i:Nat)))],
 [(7,.cells 6 [.d (.ot (.map none)),.d (.it .i64 (i:Nat)),.d (.fs 32 (m.map QJ)),.ts 36 ((QBu m ws i).map Q6) 8,.ts 38 ((QBu m ws i).map QGk) 9,.d (.it .i64 0)]),(8,.tail 49 true),(9,.tail 110 true)],10⟩
theorem QJn(m:List (List UInt8))(hm:QDN m)(ws:List Wr)(hw:QQq ws)(hml:m.length<=1000)(hwl:ws.length<=1000):FnC Tryz.prog 94 [.d (QAe m),.d (.fs 36 (ws.map Q6))] (.d (QQ (QCS m ws))):=by
 have hml':(m.map QJ).length=m.length:=ze ..;have hwl':(ws.map Q6).length=ws.length:=ze ..;by_cases h:1<=m.length/\m.length<=65
 ·rw [show QCS m ws=some _ from if_pos h];have hne:(m.map QJ).isEmpty=false:=by
   cases m with
   |nil=>simp at h
   |cons=>rfl
  refine FnC.introW QE Tryz.func94 rfl Tryz.ntmps94 Tryz.call94 rfl (bll rfl) rfl ?_;(repeat' (conv=>whnf);first|refine cI i18 ?_|refine cI i59 ?_|refine cI i60 ?_|with_reducible refine Spl.no hne ?_|refine gOI ?_|intro x hx hu|intro h|apply sS);conv=>whnf
  refine Qa QE (λi:Nat=>i<=ws.length) (dA m ws) (λi=>ws.length-i) 0 (yc _)
   ?_ ?_
  ·refine Wk.trans (Wk.nlTs 7 3 6 36 49 wu wu) ?_;refine Wk.trans (Wk.nlTs 7 4 6 38 110 wu wu) ?_;exact Wk.vwL (ai (Vw.eq rfl) (ai (Vw.eq rfl) (ai (Vw.eq rfl) (ai (Vw.eq rfl) trivial))))
     (ai (VwO.cells _ _ _ (.cons (Vw.eq rfl) rfl (.cons (Vw.eq rfl) rfl (.cons (Vw.ts' rfl) rfl (.cons (Vw.eq rfl) rfl (.cons (Vw.eq rfl) rfl (.cons (Vw.eq rfl) rfl .nil))))))) (ai (VwO.same _) (ai (VwO.same _) trivial))) rfl
  intro i hi;rcases yr i ws.length with hil|hil
  ·obtain ⟨x,hx⟩:=Q8 hil;have hxs:=hw x (yw hx);have hpos:m.length≠0:=by omega
   have hwi:((QBu m ws i).map Q6).length<=1000:=by
    rw[ze];exact y9 (QDO m ws i) hwl
   have hwe:((QBu m ws i).map QGk).length<=1000:=by
    rw[ze];exact y9 (QDO m ws i) hwl
   have hwj:(QBu m ws i).length<=1000:=y9 (QDO m ws i) hwl;have hstep:=QLC m hx;obtain⟨xa,xs,xk,xi,xe⟩:=x;obtain⟨g,rfl⟩:=JZ hxs;(repeat' (conv=>whnf);first|with_reducible refine Zr hx ?_|with_reducible refine QQp ?_|with_reducible refine AtA.mk' ?_|refine cI QOV ?_|refine cI i57 ?_|refine cI i51 ?_|refine cI QIS ?_|refine cI QK0 ?_|refine gD ?_|refine gOI ?_|intro x hx hu|intro h|apply sS);all_goals refine⟨i+1,by omega,by dsimp only;omega,Wk.vwL (ai (Vw.eq rfl) (ai (Vw.eq rfl) (ai (Vw.eq rfl) (ai (Vw.eq (QM om)) trivial)))) (ai (VwO.cells _ _ _ (.cons (Vw.eq rfl) rfl (.cons (Vw.eq (QM om)) rfl (.cons (Vw.eq rfl) rfl (.cons (Vw.eq (QCe ?_)) rfl (.cons (Vw.eq (QCe ?_)) rfl (.cons (Vw.eq rfl) rfl .nil))))))) (ai (VwO.same _) (ai (VwO.same _) trivial))) rfl⟩
   all_goals first
    |(rw[hstep,if_pos (by dsimp only at*;omega),yh];rfl)
    |(rw[hstep,if_neg (by dsimp only at*;omega)])
  ·have hli:i=ws.length:=by omega
   have hlast:QBu m ws i=wts m.length ws:=by unfold QBu;rw[hli,vn]
   (repeat' (conv=>whnf);first|refine QC ?_|intro x hx hu|intro h|apply sS);refine⟨⟨[(4,.ptr 7 0)],[(7,.cells 6 ((QDM ⟨ws.length,m,wts m.length ws,(wts m.length ws).map QGk,0⟩).map AV.d))],10⟩,Wk.vwL (ai (Vw.eq rfl) trivial) (ai (VwO.cells _ _ _ (.cons (Vw.an _ rfl) rfl (.cons (Vw.eq (QM (by dsimp only;omega))) rfl (.cons (Vw.eq rfl) rfl (.cons (Vw.ts' (by rw[hlast])) rfl (.cons (Vw.ts' (by rw[hlast])) rfl (.cons (Vw.eq rfl) rfl .nil))))))) trivial) rfl,?_⟩;exact⟨_,⟨by decide,rfl⟩,rfl⟩
 ·rw [show QCS m ws=none from if_neg h];refine QK i94 ?_;(repeat' (conv=>whnf);first|refine cI i18 ?_|refine cI i59 ?_|refine gOI ?_|intro x hx hu|intro h|apply sS);all_goals try omega
  all_goals refine Qu QE (λi:Nat=>i<=ws.length) (λi:Nat=>⟨[(0,.d (QAe m)),(1,.d (.fs 36 (ws.map Q6))),(5,.d (.ot (.pointer none))),(7,.d (.it .i64 (i:Nat)))],[],2⟩) (λi=>ws.length-i) 0 (yc _) ⟨ai rfl rr,trivial,rfl⟩ ?_
  all_goals (
   intro i hi;rcases yr i ws.length with hil|hil
   ·obtain ⟨x,hx⟩:=Q8 hil;have hxs:=hw x (yw hx);(repeat' (conv=>whnf);first|with_reducible refine Zr hx ?_|refine cI QOV ?_|refine cI i57 ?_|refine gOI ?_|intro x hx hu|intro h|apply sS);refine again (i+1) om (by dsimp only;omega) (ai rfl (ai rfl (ai rfl (ai (QM om) trivial)))) trivial rfl
   ·(repeat' (conv=>whnf);first|refine QC ?_|intro x hx hu|intro h|apply sS);rfl)
def Xa(d:Option Dk):List (List UInt8):=match d with
 |none=>[]
 |some dk=>(List.range dk.safe.length).map λk:Nat=>rdS d (k:Nat)
theorem QOj{d:Option Dk}(h:Zs d):QDN (Xa d):=by
 intro s hs;cases d with
 |none=>cases hs
 |some dk=>
  obtain⟨k,_,rfl⟩:=ye.1 hs;exact X6 h _
theorem QQr(h:l.length=n):XD n 1 ([]++l++[])=[l]:=by
 show [([]++l++[]).take n]=_;rw[y6,xh,yd om]
def mtA(d:Option Dk)(i:Nat):S:=⟨[(0,.d (QQ d)),(3,.ts 32 (((List.range i).map λk:Nat=>rdS d (k:Nat)).map QJ) 0),(7,.d (.it .i64 (i:Nat)))],[(0,.tail 37 true)],1⟩
theorem QAq(d:Option Dk)(hd:Zs d):FnC Tryz.prog 45 [.d (QQ d)] (.d (.bl (decide (J0 (Xa d))))):=by
 have hm:=QLB _ (QOj hd);have hil:(Xa d).length<=65:=by
  cases d with
  |none=>exact yc _
  |some dk=>
   show((List.range dk.safe.length).map _).length<=65;rw[ze,yy];exact hd.2.2.1
 have hhas:∀i:Nat,QFT d i↔i<(Xa d).length:=λi=>by
  cases d with
  |none=>exact⟨λh=>h.elim,λh=>absurd h (Nat.not_lt_zero _)⟩
  |some dk=>
   show(0<=(i:Int)/\(i:Int)<dk.safe.length)↔i<((List.range dk.safe.length).map _).length;rw[ze,yy];omega
 have himg:((List.range (Xa d).length).map λk:Nat=>rdS d (k:Nat))=Xa d:=by
  cases d with
  |none=>rfl
  |some dk=>
   show((List.range ((List.range dk.safe.length).map _).length).map _)=_;rw[ze,yy];rfl
 refine QK i45 ?_;(repeat' (conv=>whnf);first|refine QC ?_|intro x hx hu|intro h|apply sS);conv=>whnf
 refine Qu QE (λi:Nat=>i<=(Xa d).length) (mtA d) (λi=>66-i) 0 (yc _) ⟨ai rfl rr,ai rfl trivial,rfl⟩ ?_;intro i hi;have hr:=QCw d hd i;have hlen:(((List.range i).map λk:Nat=>rdS d (k:Nat)).map QJ).length=i:=by simp
 rcases yr i (Xa d).length with hlt|hge
 ·rw [show rdE d i=0 from if_pos ((hhas i).2 hlt)]at hr;have hs:=X6 hd i;have hrl:(List.range i).length=i:=yy;(repeat' (conv=>whnf);first|refine cEk hr ?_|refine XU.mk ((QJ (rdS d i)).map AV.d) (JF _) ?_|refine AtA.eq (ZN rfl rfl hs) ?_|refine QC ?_|intro x hx hu|intro h|apply sS);refine again (i+1) om (by dsimp only;omega) (ai rfl (ai (QCe ?_) (ai (QM om) trivial))) rr rfl;rw[x3,yh,yh];exact congrArg _ (QQr (by rw[XY];exact hs))
 ·have hie:i=(Xa d).length:=by omega
  rw[show rdE d i=1 from if_neg (λq=>by have:=(hhas i).1 q;omega)]at hr;have hmi:FnC Tryz.prog 100 [.d (.fs 32 ((((List.range i).map λk:Nat=>rdS d (k:Nat))).map QJ))] (.d (.bl (decide (J0 (Xa d))))):=by rw[hie,himg];exact hm
  by_cases h65:i<65
  ·(repeat' (conv=>whnf);first|refine cEk hr ?_|refine cEk hmi ?_|refine XU.mk ((QJ (rdS d i)).map AV.d) (JF _) ?_|refine QC ?_|intro x hx hu|intro h|apply sS);rfl
  ·(repeat' (conv=>whnf);first|refine cEk hmi ?_|refine QC ?_|intro x hx hu|intro h|apply sS);rfl
def YY(m:List (List UInt8))(w:Wr):List (List UInt8):=if 0<=w.a/\w.a<m.length then m.set w.a.toNat w.s else m
def Qg(m:List (List UInt8))(ws:List Wr):List (List UInt8):=ws.foldl YY m
theorem QMV(m:List (List UInt8))(w:Wr):(YY m w).length=m.length:=by unfold YY;split<;>simp
theorem Yc(m:List (List UInt8)):∀ws:List Wr,(Qg m ws).length=m.length:=by
 intro ws;induction ws generalizing m with
 |nil=>rfl
 |cons w t ih=>
  show(Qg (YY m w) t).length=_;rw[ih,QMV]
def QLD(f:Int->List UInt8)(p:Int)(k:Nat):Prop:=(QA f k).u=true/\(QA f k).p=p/\(QF f (QA f k).t).k≠0
instance(f:Int->List UInt8)(p:Int)(k:Nat):Decidable (QLD f p k):=by unfold QLD;infer_instance
def QAr(f:Int->List UInt8)(p:Int)(s:List UInt8)(k:Nat):Prop:=QLD f p k/\(QA f k).n=s
instance(f:Int->List UInt8)(p:Int)(s:List UInt8)(k:Nat):Decidable (QAr f p s k):=by unfold QAr;infer_instance
def XI(f:Int->List UInt8)(p:Int)(s:List UInt8):Option Nat:=(List.range 24).find? λk=>decide (QAr f p s k)
def QDP(o:Option Nat):AV:=match o with
 |some k=> .tup [.d (.it .i64 (k:Nat)),.d (.bl true)]
 |none=> .tup [.d (.it .i64 0),.d (.bl false)]
variable {f g:Int->List UInt8}
variable {p off:Int}
theorem QLE(hk:k<24)(h:QAr f p s k)(hn:∀j:Nat,j<k->¬QAr f p s j):XI f p s=some k:=by
 unfold XI;refine kf.2 ⟨decide_eq_true h,k,by simpa using hk,by simp,λj hj=>?_⟩;simp only[wh];simpa using hn j hj
theorem QLF(hn:∀j:Nat,j<24->¬QAr f p s j):XI f p s=none:=by
 unfold XI;rw[jo];intro j hj;simpa using hn j (yj.1 hj)
def fdA(F1 F2:Func)(d:Option Dk)(p:Int)(s:List UInt8)(k:Nat):S:=⟨[(0,.yld 12),(1,.ptr 10 0),(5,.d (.it .i64 (k:Nat)))],
  [(12,rgL 11 F1),(11,.frame 30 [(1,.ptr 4 0),(2,.ptr 5 0),(3,.ptr 8 0)]),(10,.cells 1 [.d (QQ d)]),(8,.cells 1 [.yld 7]),(7,rgL 6 F2),(6,.frame 21 [(5,.ptr 0 0),(6,.ptr 1 0),(7,.ptr 2 0)]),
   (5,.cells 1 [.d (.it .i64 p)]),(4,.cells 1 [.d (QQ d)]),(2,.cells 1 [.d (.bl false)]),(1,.cells 1 [.d (.it .i64 0)]),(0,.cells 1 [.d (.st s)])],13⟩
theorem QJo(d:Option Dk)(hd:Zs d)(p:Int)(s:List UInt8):FnC Tryz.prog 112 [.d (QQ d),.d (.it .i64 p),.d (.st s)] (QDP (XI (rdS d) p s)):=by
 have he:=λk=>XC d hd k;generalize hR:QDP (XI (rdS d) p s)=R;have hRP:R.isP=true:=by rw[<-hR];unfold QDP;split<;>rfl
 refine FnC.intro QE Tryz.func112 rfl Tryz.ntmps112 Tryz.call112 rfl (bll rfl) hRP ?_;(repeat' (conv=>whnf);first|refine cI QSK ?_|refine gOI ?_|intro x hx hu|intro h|apply sS);conv=>whnf
 refine XN.intro QE QSS rfl rfl ?_;(repeat' (conv=>whnf);first|refine cI QQe ?_|refine gOI ?_|intro x hx hu|intro h|apply sS);conv=>whnf
 refine XN.intro QE QQh rfl rfl ?_;(repeat' (conv=>whnf);first|refine QC ?_|intro x hx hu|intro h|apply sS);conv=>whnf
 refine Q0.wk (τ:=fdA Tryz.f213 Tryz.f112 d p s 0) (Wk.enF rr (by (repeat (first|exact trivial|refine ai (Qy rfl wu) ?_|refine ai (Q4 wu (by (repeat (first|exact trivial|refine ai wu ?_)))) ?_))) rfl) ?_;conv=>whnf
 refine Qa QE (λk:Nat=>k<=24/\∀j:Nat,j<k->¬QAr (rdS d) p s j) (fdA Tryz.f213 Tryz.f112 d p s) (λk=>24-k) 0 ⟨yc _,λj hj=>by omega⟩ (Wk.en ⟨ai rfl rr,(by (repeat (first|exact trivial|refine ai rfl ?_))),rfl⟩) ?_;intro k hk0;have k1:=hk0.1;have k2:=hk0.2;by_cases hk:k<24
 ·have hek:=he (k:Nat);have next:¬QAr (rdS d) p s k->∀j:Nat,j<k+1->¬QAr (rdS d) p s j:=λhn j hj=>by
   rcases yr j k with hjk|hjk
   ·exact k2 j hjk
   ·obtain rfl:j=k:=by omega
    exact hn
  by_cases hu:(QA (rdS d) k).u=false
  ·have hek':Qt (QA (rdS d) k)=[.bl false,.it .i64 (QA (rdS d) k).p,.st (QA (rdS d) k).n,.it .i64 (QA (rdS d) k).t]:=by rw[Qt,hu]
   rw[hek']at hek;(repeat' (conv=>whnf);first|refine cEk hek ?_|refine QC ?_|intro x hx hu|intro h|apply sS);refine⟨k+1,⟨by omega,next (λq=>by rw[q.1.1]at hu;cases hu)⟩,by dsimp only;omega,Wk.enF (ai rfl (ai rfl (ai (QM om) trivial))) (by (repeat (first|exact trivial|refine ai (Qy rfl wu) ?_|refine ai (Q4 wu (by (repeat (first|exact trivial|refine ai wu ?_)))) ?_))) rfl⟩
  ·have hu':(QA (rdS d) k).u=true:=by simpa using hu
   have hek':Qt (QA (rdS d) k)=[.bl true,.it .i64 (QA (rdS d) k).p,.st (QA (rdS d) k).n,.it .i64 (QA (rdS d) k).t]:=by rw[Qt,hu']
   rw[hek']at hek;have hin:=YD d hd (QA (rdS d) k).t;(repeat' (conv=>whnf);first|refine cEk hek ?_|refine cEk hin ?_|with_reducible refine Yr.intro QE wu wu wu ?_|refine QC ?_|intro x hx hu|intro h|apply sS)
   ·have hv:QDP (XI (rdS d) p s)=QDP (some k):=by rw[QLE hk ⟨⟨hu',by assumption,by assumption⟩,by assumption⟩ k2]
    exact hv.symm.trans hR
   ·refine ⟨k+1,⟨by omega,next (λq=>(by assumption:¬_) q.2)⟩,by dsimp only;omega,Wk.enF (ai rfl (ai rfl (ai (QM om) trivial))) (by (repeat (first|exact trivial|refine ai (Qy rfl wu) ?_|refine ai (Q4 wu (by (repeat (first|exact trivial|refine ai wu ?_)))) ?_))) rfl⟩
   ·refine ⟨k+1,⟨by omega,next (λq=>q.1.2.2 (by assumption))⟩,by dsimp only;omega,Wk.enF (ai rfl (ai rfl (ai (QM om) trivial))) (by (repeat (first|exact trivial|refine ai (Qy rfl wu) ?_|refine ai (Q4 wu (by (repeat (first|exact trivial|refine ai wu ?_)))) ?_))) rfl⟩
   ·refine ⟨k+1,⟨by omega,next (λq=>(by assumption:¬_) q.1.2.1)⟩,by dsimp only;omega,Wk.enF (ai rfl (ai rfl (ai (QM om) trivial))) (by (repeat (first|exact trivial|refine ai (Qy rfl wu) ?_|refine ai (Q4 wu (by (repeat (first|exact trivial|refine ai wu ?_)))) ?_))) rfl⟩
 ·(repeat' (conv=>whnf);first|refine QC ?_|intro x hx hu|intro h|apply sS);have hv:QDP (XI (rdS d) p s)=QDP none:=by rw[QLF λj hj=>k2 j om]
  exact hv.symm.trans hR
def JJ(l:List (List UInt8)):List (List UInt8):=l.mergeSort λx y=>decide (x<=y)
def vS(l:List (List UInt8)):List (List D):=l.map λz=>[.st z]
theorem QEg(l:List (List UInt8)):(JJ l).length=l.length:=km _
theorem QMW(t:Nat)(fl:Bool)(zs:List (List UInt8))(n:Nat)(hn:zs.length=n)(h0:0<n)(hsz:n<4611686018427387904):FnM Tryz.prog 174 true [.vx 1 0 0 n] (.vec t 1 (vS zs) fl) (.vec t 1 (vS (JJ zs)) fl) (.tup []):=by
 subst hn;exact FnM.ofRow (λl:List UInt8=>Value.string ⟨l.toArray⟩) (λz=> .st z) (λF x=> .st _) (λF x v h=>by cases h;rfl) (m:=none) (km _) h0 (λq h=>by cases h) Tryz.call174 (λblk off cap w hH hb hc=>(Tryz.slices_Sort_string blk off cap zs w hH hb hsz).mono λe w' h=>h)
theorem QGl(t:Nat)(fl:Bool)(n:Nat)(zs:List (List UInt8))(hn:zs.length=n)(h0:0<n)(hsz:n<4611686018427387904):FnM Tryz.prog 175 true [.vx 1 0 0 n] (.vec t 1 (vS zs) fl) (.vec t 1 (vS (Lib.compact zs++List.replicate (zs.length-(Lib.compact zs).length) [])) fl) (.vx 1 0 0 (Lib.compact zs).length):=by
 subst hn;exact FnM.ofRow (λl:List UInt8=>Value.string ⟨l.toArray⟩) (λz=> .st z) (λF x=> .st _) (λF x v h=>by cases h;rfl) (m:=some (Lib.compact zs).length) (by have:=Lib.compact_length_le zs;simp;omega) h0 (λq h=>by cases h;exact Lib.compact_length_le zs) Tryz.call175 (λblk off cap w hH hb hc=>(Tryz.slices_Compact_string blk off cap zs w hH om hc).mono λe w' ⟨h1,q,h2⟩=>⟨h1,q,#[],by rw[Go.Sort.grow_empty];exact h2⟩)
def Z9(f:Int->List UInt8)(p:Int)(k:Nat):List (List UInt8):=((List.range k).filter λj=>decide (QLD f p j)).map λj:Nat=>(QA f (j:Nat)).n
def nms(f:Int->List UInt8)(p:Int):List (List UInt8):=Lib.compact (JJ (Z9 f p 24))
theorem QGm(f:Int->List UInt8)(p:Int)(k:Nat):(Z9 f p k).length<=k:=by
 unfold Z9;rw[ze];exact y9 (wq _ _) (by rw[yy];exact zr _)
theorem QMX(h:QLD f p k):Z9 f p (k+1)=Z9 f p k++[(QA f (k:Nat)).n]:=by
 unfold Z9;rw[x3,x6,yh];simp[h]
theorem QFU(h:¬QLD f p k):Z9 f p (k+1)=Z9 f p k:=by
 unfold Z9;rw[x3,x6,yh];simp[h]
def lsA(F1 F2:Func)(d:Option Dk)(p:Int)(k:Nat)(L:List (List UInt8)):S:=⟨[(0,.yld 11),(1,.ptr 9 0),(5,.d (.it .i64 (k:Nat)))],
  [(11,rgL 10 F1),(10,.frame 30 [(1,.ptr 3 0),(2,.ptr 4 0),(3,.ptr 7 0)]),(9,.cells 1 [.d (QQ d)]),(7,.cells 1 [.yld 6]),(6,rgL 5 F2),(5,.frame 23 [(5,.ptr 1 0)]),
   (4,.cells 1 [.d (.it .i64 p)]),(3,.cells 1 [.d (QQ d)]),(1,.cells 1 [.vx 1 12 0 L.length]),(12,.vec 9 1 (vS L) false)],13⟩
variable {σ:S}
theorem QJp{τ τ':S}(e:τ'=τ)(h:Wk N σ τ'):Wk N σ τ:=by rw[<-e];exact h
theorem QQs{L:List (List UInt8)}{x:List UInt8}(h:n=L.length):(vS L).take n++[[.st x]]=vS (L++[x]):=by
 subst h;unfold vS;rw[yd (by rw[ze];exact zr _),yh];rfl
theorem QOk(d:Option Dk)(hd:Zs d)(p:Int):FnC Tryz.prog 128 [.d (QQ d),.d (.it .i64 p)] (.d (.fs 1 (vS (nms (rdS d) p)))):=by
 have he:=λk=>XC d hd k;refine QK QTo ?_;(repeat' (conv=>whnf);first|refine cI QSK ?_|refine gOI ?_|intro x hx hu|intro h|apply sS);conv=>whnf
 refine XN.intro QE QSS rfl rfl ?_;(repeat' (conv=>whnf);first|refine cI QQe ?_|refine gOI ?_|intro x hx hu|intro h|apply sS);conv=>whnf
 refine XN.intro QE QQh rfl rfl ?_;(repeat' (conv=>whnf);first|refine QC ?_|intro x hx hu|intro h|apply sS);conv=>whnf
 refine Q0.wk (Wk.nlVx 1 0 1 1 9 wu wu) ?_;refine Q0.wk (τ:=lsA Tryz.f213 Tryz.f128 d p 0 []) (Wk.enF rr (by (repeat (first|exact trivial|refine ai (Qy rfl wu) ?_|refine ai (Q4 wu (by (repeat (first|exact trivial|refine ai wu ?_)))) ?_))) rfl) ?_;conv=>whnf
 refine Qa QE (λk:Nat=>k<=24) (λk:Nat=>lsA Tryz.f213 Tryz.f128 d p k (Z9 (rdS d) p k)) (λk=>24-k) 0 (yc _) (Wk.en ⟨ai rfl rr,(by (repeat (first|exact trivial|refine ai rfl ?_))),rfl⟩) ?_;intro k k1;by_cases hk:k<24
 ·have hek:=he (k:Nat);have hln:=QGm (rdS d) p k;have hlv:(vS (Z9 (rdS d) p k)).length=(Z9 (rdS d) p k).length:=ze ..;by_cases hu:(QA (rdS d) k).u=false
  ·have hek':Qt (QA (rdS d) k)=[.bl false,.it .i64 (QA (rdS d) k).p,.st (QA (rdS d) k).n,.it .i64 (QA (rdS d) k).t]:=by rw[Qt,hu]
   rw[hek']at hek;have hno:Z9 (rdS d) p (k+1)=Z9 (rdS d) p k:=QFU (λq=>by rw[q.1]at hu;cases hu);(repeat' (conv=>whnf);first|refine cEk hek ?_|refine QC ?_|intro x hx hu|intro h|apply sS);refine⟨k+1,by omega,by dsimp only;omega,QJp (congrArg (lsA Tryz.f213 Tryz.f128 d p (k+1)) hno.symm) (Wk.enF (ai rfl (ai rfl (ai (QM om) trivial))) (by (repeat (first|exact trivial|refine ai (Qy rfl wu) ?_|refine ai (Q4 wu (by (repeat (first|exact trivial|refine ai wu ?_)))) ?_))) rfl)⟩
  ·have hu':(QA (rdS d) k).u=true:=by simpa using hu
   have hek':Qt (QA (rdS d) k)=[.bl true,.it .i64 (QA (rdS d) k).p,.st (QA (rdS d) k).n,.it .i64 (QA (rdS d) k).t]:=by rw[Qt,hu']
   rw[hek']at hek;have hin:=YD d hd (QA (rdS d) k).t;(repeat' (conv=>whnf);first|refine cEk hek ?_|refine cEk hin ?_|with_reducible refine Yr.intro QE wu wu wu ?_|refine Yq.mk (vS (Z9 (rdS d) p k++[(QA (rdS d) k).n])) (QQs rfl).symm ?_|refine XT.eq (Z9 (rdS d) p k++[(QA (rdS d) k).n]).length (by rw[zu];rfl) ?_|refine QC ?_|intro x hx hu|intro h|apply sS)
   ·have hyes:=QMX (f:=rdS d) (p:=p) (k:=k) ⟨hu',by assumption,by assumption⟩;refine⟨k+1,by omega,by dsimp only;omega,QJp (congrArg (lsA Tryz.f213 Tryz.f128 d p (k+1)) hyes.symm) (Wk.enF (ai rfl (ai rfl (ai (QM om) trivial))) (by (repeat (first|exact trivial|refine ai (Qy rfl wu) ?_|refine ai (Q4 wu (by (repeat (first|exact trivial|refine ai wu ?_)))) ?_))) rfl)⟩
   ·have hno:Z9 (rdS d) p (k+1)=Z9 (rdS d) p k:=QFU (λq=>q.2.2 (by assumption));refine⟨k+1,by omega,by dsimp only;omega,QJp (congrArg (lsA Tryz.f213 Tryz.f128 d p (k+1)) hno.symm) (Wk.enF (ai rfl (ai rfl (ai (QM om) trivial))) (by (repeat (first|exact trivial|refine ai (Qy rfl wu) ?_|refine ai (Q4 wu (by (repeat (first|exact trivial|refine ai wu ?_)))) ?_))) rfl)⟩
   ·have hno:Z9 (rdS d) p (k+1)=Z9 (rdS d) p k:=QFU (λq=>(by assumption:¬_) q.2.1);refine⟨k+1,by omega,by dsimp only;omega,QJp (congrArg (lsA Tryz.f213 Tryz.f128 d p (k+1)) hno.symm) (Wk.enF (ai rfl (ai rfl (ai (QM om) trivial))) (by (repeat (first|exact trivial|refine ai (Qy rfl wu) ?_|refine ai (Q4 wu (by (repeat (first|exact trivial|refine ai wu ?_)))) ?_))) rfl)⟩
 ·have hk24:k=24:=by omega
  have hln:=QGm (rdS d) p k;have hR:nms (rdS d) p=Lib.compact (JJ (Z9 (rdS d) p k)):=by unfold nms;rw[hk24]
  by_cases hL:(Z9 (rdS d) p k).length=0
  ·have hnil:Z9 (rdS d) p k=[]:=y4.1 hL;have hR0:nms (rdS d) p=[]:=by
    rw[hR,hnil];exact y4.1 (Nat.le_zero.1 (by have:=Lib.compact_length_le (JJ ([]:List (List UInt8)));rw[QEg]at this;exact this))
   (repeat' (conv=>whnf);first|refine CallI.none0 Tryz.call174 Tryz.slices_Sort_string_none wu hL ?_|refine CallI.same0 Tryz.call175 Tryz.slices_Compact_string_empty wu hL ?_|refine gOI ?_|intro x hx hu|intro h|apply sS);refine QOE ?_;rw[hR0,hnil];rfl
  ·have hpos:0<(Z9 (rdS d) p k).length:=by omega
   have hcl:(Lib.compact (JJ (Z9 (rdS d) p k))).length<=(JJ (Z9 (rdS d) p k)).length:=Lib.compact_length_le _;(repeat' (conv=>whnf);first|refine CallI.byM (QMW 9 false (Z9 (rdS d) p k) _ rfl hpos om) wu rfl ?_|refine CallI.byM (QGl 9 false (Z9 (rdS d) p k).length (JJ (Z9 (rdS d) p k)) (QEg _) hpos om) wu rfl ?_|refine gOI ?_|intro x hx hu|intro h|apply sS);refine ai ?_ ?_
   ·show 0+(Lib.compact (JJ (Z9 (rdS d) p k))).length<=(vS (Lib.compact (JJ (Z9 (rdS d) p k))++_)).length;unfold vS;rw[ze,zu];omega
   ·(repeat' (conv=>whnf);first|refine QC ?_|intro x hx hu|intro h|apply sS);refine QOE ?_;rw[hR];show(List.drop 0 (vS (_++_))).take _=_;unfold vS;rw[v7,yh,un (ze ..)]
def Jp(f:Int->List UInt8)(n:Int)(s:List UInt8):Int×Int:=if(QF f n).k=2 then(match XI f n s with|none=>(0,4)|some k=>((QA f (k:Nat)).t,0))else(0,6)
def QEh(x:Int×Int):AV:= .tup [.d (.it .i64 x.1),.d (.it .i64 x.2)]
theorem QOl(d:Option Dk)(hd:Zs d)(n:Int)(s:List UInt8):FnC Tryz.prog 54 [.d (QQ d),.d (.it .i64 n),.d (.st s)] (QEh (Jp (rdS d) n s)):=by
 have hi:=YD d hd n;have hf:=QJo d hd n s;unfold Jp;by_cases h2:(QF (rdS d) n).k=2
 ·rw [if_pos h2];cases hk:XI (rdS d) n s with
  |none=>
   rw[hk,QDP]at hf;refine QK i54 ?_;(repeat' (conv=>whnf);first|refine cEk hi ?_|refine cEk hf ?_|refine QC ?_|intro x hx hu|intro h|apply sS);rfl
  |some k=>
   rw[hk,QDP]at hf;have he:=XC d hd (k:Nat);refine QK i54 ?_;(repeat' (conv=>whnf);first|refine cEk hi ?_|refine cEk hf ?_|refine cEk he ?_|refine QC ?_|intro x hx hu|intro h|apply sS);rfl
 ·rw [if_neg h2];refine QK i54 ?_;(repeat' (conv=>whnf);first|refine cEk hi ?_|refine QC ?_|intro x hx hu|intro h|apply sS);rfl
def lkp(f:Int->List UInt8):List (List UInt8)->Int->Int×Int
 |[],n=>(n,0)
 |s::t,n=>if(Jp f n s).2=0 then lkp f t (Jp f n s).1 else(0,(Jp f n s).2)
def ZA(f:Int->List UInt8)(p:List UInt8):Int×Int:=if(QI p).2=0 then lkp f (QI p).1 0 else(0,(QI p).2)
def lkI(f:Int->List UInt8)(ns:List (List UInt8))(r:Int×Int)(x:Nat×Int):Prop:=x.1<=ns.length/\lkp f (ns.drop x.1) x.2=r
theorem QIb{p:List UInt8}(h:¬(QI p).2=0):(QI p).1=[]:=by
 unfold QI at h⊢;split
 ·rfl
 ·rename_i h1;rw[if_neg h1]at h;cases p with
  |nil=>rfl
  |cons b r=>
   simp only at h⊢;split
   ·rename_i h2;rw[if_pos h2]at h;split
    ·rename_i h3;rw[if_pos h3]at h;exact(h rfl).elim
    ·rfl
   ·rfl
theorem Yk(p:List UInt8):(QI p).1.length<=4:=by
 unfold QI;split
 ·exact yc _
 ·split
  ·exact yc _
  ·split
   ·split
    ·rename_i h3;exact h3.1
    ·exact yc _
   ·exact yc _
theorem QBv(d:Option Dk)(hd:Zs d)(p:List UInt8)(hp:p.length<=100000):FnC Tryz.prog 13 [.d (QQ d),.d (.st p)] (QEh (ZA (rdS d) p)):=by
 have hs:=Z2 p hp;have hst:=λn s=>QOl d hd n s;generalize hR:ZA (rdS d) p=R;unfold ZA at hR;have hN:(QI p).1.map stL=(QI p).1.map stL:=rfl;unfold QK6 at hs;by_cases he:(QI p).2=0
 ·rw [if_pos he]at hR;rw[he]at hs;have hnb:=Yk p;generalize hns:(QI p).1=ns at hs hR hnb;have hnl:(ns.map stL).length=ns.length:=ze ..;refine QK i13 ?_;(repeat' (conv=>whnf);first|refine cEk hs ?_|refine QC ?_|intro x hx hu|intro h|apply sS);conv=>whnf
  refine Qu QE (lkI (rdS d) ns R) (λx=>⟨[(0,.d (QQ d)),(7,.d (.it .i64 0)),(8,.d (.it .i64 x.2)),(16,.d (.fs 1 (ns.map stL))),(17,.d (.it .i64 (ns.length:Nat))),(18,.d (.it .i64 (x.1:Nat)))],[],0⟩) (λx=>ns.length-x.1) (0,0) ⟨yc _,by rw[v7];exact hR⟩ ⟨ai rfl (ai rfl (ai rfl (ai rfl (ai (QM (by rw[hnl])) rr)))),trivial,rfl⟩ ?_;intro x hx;have x1:=hx.1;have x2:=hx.2;by_cases hk:x.1<ns.length
  ·have hsx:=hst x.2 ns[x.1];have hget:ns[x.1]? =some ns[x.1]:=zk hk;rw[ji hk,lkp]at x2;unfold QEh at hsx;by_cases hz:(Jp (rdS d) x.2 ns[x.1]).2=0
   ·rw [if_pos hz]at x2;rw[hz]at hsx;(repeat' (conv=>whnf);first|refine cEk hsx ?_|with_reducible refine Zr hget ?_|refine QC ?_|intro x hx hu|intro h|apply sS);refine again (x.1+1,(Jp (rdS d) x.2 ns[x.1]).1) ⟨hk,x2⟩ (by dsimp only;omega) (ai rfl (ai rfl (ai rfl (ai rfl (ai rfl (ai (QM (by dsimp only;omega)) trivial)))))) trivial rfl
   ·rw [if_neg hz]at x2;(repeat' (conv=>whnf);first|refine cEk hsx ?_|with_reducible refine Zr hget ?_|refine QC ?_|intro x hx hu|intro h|apply sS);all_goals first|(exact congrArg QEh x2)|(exfalso;exact hz (by assumption))
  ·have hd0:ns.drop x.1=[]:=wn om;rw[hd0,lkp]at x2;(repeat' (conv=>whnf);first|refine QC ?_|intro x hx hu|intro h|apply sS);exact congrArg QEh x2
 ·rw [if_neg he]at hR;rw[QIb he]at hs;refine QK i13 ?_;(repeat' (conv=>whnf);first|refine cEk hs ?_|with_reducible refine Q0.unroll QE 1 ?_|refine QC ?_|intro x hx hu|intro h|apply sS);exact congrArg QEh hR
theorem QCT(n:Int)(l:List Wr)(x:Wr):YQ n (l++[x])=if x.a=n then some x.s else YQ n l:=by
 unfold YQ;rw[List.reverse_append];simp only[List.reverse_cons,List.reverse_nil,y6,Wy,Ws];by_cases h:x.a=n
 ·simp [h]
 ·simp [h]
theorem QMY{m:List (List UInt8)}(hm:QDN m)(hw:QQq ws)(hwl:ws.length<=1000):Zs (QCS m ws):=by
 unfold QCS;split
 ·rename_i h;refine⟨hm,λw hw'=>?_,h.2,?_⟩
  ·have hw':w∈(ws.filter (okW m.length)).map λw=> {w with e:=0}:=hw';obtain⟨x,hx,rfl⟩:=ye.1 hw';exact hw x (xj.1 hx).1
  ·show ((ws.filter (okW m.length)).map _).length<=100000;rw[ze];have:=wq (okW m.length) ws;omega
 ·trivial
theorem QMZ(h:∀n:Int,0<=n->f n=g n)(n:Int):QF f n=QF g n:=by
 unfold QF;split
 ·rw [h _ om]
 ·rfl
theorem QMa(h:∀n:Int,0<=n->f n=g n)(n:Int):QA f n=QA g n:=by
 unfold QA;split
 ·rw [h _ om]
 ·rfl
def QOm:List UInt8:=[2,0,0,0,0,0,0,0,0,0,0,0,0,0,0,0,0,0,0,0,0,0,0,0,0,0,0,0,0,0,0,0]
def YR:List (List UInt8):=Yj::QOm::List.replicate 63 Qz
def k1S:List UInt8:=[1,0,2,1,0,0,0,0,0,0,0,0,0,0,0,0,97,0,0,0,0,0,0,0,0,0,0,0,0,0,0,0]
def k2S:List UInt8:=[1,0,0,0,0,0,0,0,0,0,0,0,0,0,0,0,0,0,0,0,0,0,0,0,0,0,0,0,0,0,0,0]
def kW:List Wr:=[⟨17,k1S,0,0,0⟩,⟨3,k2S,0,0,0⟩]
theorem QGn:QDN YR:=by
 intro s hs;simp only[YR,zj,List.mem_replicate]at hs;rcases hs with rfl|rfl|⟨_,rfl⟩<;>rfl
theorem QMb:FnC Tryz.prog 46 [] (.d (QAe YR)):=by
 have hs:=QGj;refine QK i46 ?_;(repeat' (conv=>whnf);first|refine cEk hs ?_|refine QC ?_|intro x hx hu|intro h|apply sS);refine⟨YR.map QJ,⟨?_,?_,?_,?_⟩,?_⟩
 ·exact yf (by kernel_rfl)
 ·kernel_rfl
 ·intro x hx;obtain⟨s,hs,rfl⟩:=ye.1 hx;rw[XY];exact QGn s hs
 ·kernel_rfl
 ·rfl
def kD:Option Dk:=QCS YR kW
theorem f1:ZA (rdS kD) [47,97]=(2,0):=by decide+kernel
theorem f2:XI (rdS kD) 0 [97]=some 0:=by decide+kernel
theorem f3:ZA (rdS kD) [47,98]=(0,4):=by decide+kernel
theorem f4:J0 (Xa kD):=by decide+kernel
theorem f5:Z9 (rdS kD) 0 24=[[97]]:=by decide+kernel
theorem f6:Q1 (rdS kD) 2:=by decide+kernel
theorem f7:(QF (rdS kD) 2).k=1:=by decide+kernel
theorem f8:(QA (rdS kD) 0).n=[97]:=by decide+kernel
theorem f9:(nms (rdS kD) 0).length=1:=by
 unfold nms;rw[f5];have h:JJ [[97]]=[[97]]:=by simp[JJ]
 rw[h];decide+kernel
def Xm(kd:Int->Int)(R:List Bool)(x:Ent):List Bool:=
 if x.u=true/\R.getD x.p.toNat false=true/\kd x.p=2/\kd x.t≠0 then R.set x.t.toNat true else R
def ZE(kd:Int->Int)(E:List Ent)(R:List Bool):List Bool:=E.foldl (Xm kd) R
def Zp(kd:Int->Int)(E:List Ent):Nat->List Bool->List Bool
 |0,R=>R
 |n+1,R=>Zp kd E n (ZE kd E R)
def Xj(R:List Bool):Nat:=R.countP (λb=>b)
theorem QGo:∀(R:List Bool) (i:Nat),i<R.length->R.getD i false=false->Xj (R.set i true)=Xj R+1
 |[],i,h,_=>by cases h
 |b::R,0,_,h=>by
  have h:b=false:=h;subst h;simp[Xj]
 |b::R,i+1,h,h2=>by
  have ih:=QGo R i (by simpa using h) (by simpa [List.getD]using h2);unfold Xj at ih⊢;rw[qo,List.countP_cons,List.countP_cons,ih];omega
theorem QGp:∀(R:List Bool) (i:Nat),R.getD i false=true->R.set i true=R
 |[],i,_=>rfl
 |b::R,0,h=>by
  have h:b=true:=h;subst h;rfl
 |b::R,i+1,h=>by rw[qo,QGp R i (by simpa [List.getD]using h)]
theorem QOn(R:List Bool)(i:Nat)(h:R.length<=i):R.set i true=R:=List.set_eq_of_length_le h
def Xp(kd:Int->Int)(R:List Bool)(x:Ent):Prop:=x.u=true/\R.getD x.p.toNat false=true/\kd x.p=2/\kd x.t≠0/\R.getD x.t.toNat false=false/\x.t.toNat<R.length
instance(kd:Int->Int)(R:List Bool)(x:Ent):Decidable (Xp kd R x):=by unfold Xp;infer_instance
theorem QLG(kd:Int->Int)(R:List Bool)(x:Ent):(Xm kd R x).length=R.length:=by unfold Xm;split<;>simp
variable {kd:Int->Int}
variable {R:List Bool}
theorem Yd{x:Ent}(h:Xp kd R x):Xm kd R x=R.set x.t.toNat true/\Xj (Xm kd R x)=Xj R+1:=by
 obtain⟨h1,h2,h3,h4,h5,h6⟩:=h;have e:Xm kd R x=R.set x.t.toNat true:=if_pos ⟨h1,h2,h3,h4⟩;exact⟨e,by rw[e];exact QGo R _ h6 h5⟩
theorem YE{x:Ent}(h:¬Xp kd R x):Xm kd R x=R:=by
 unfold Xm;split
 ·rename_i h1;rcases yr x.t.toNat R.length with h6|h6
  ·cases hb:R.getD x.t.toNat false with
   |true=>exact QGp R _ hb
   |false=>exact(h ⟨h1.1,h1.2.1,h1.2.2.1,h1.2.2.2,hb,h6⟩).elim
  ·exact QOn R _ h6
 ·rfl
theorem QLH(kd:Int->Int)(R:List Bool)(x:Ent):Xj R<=Xj (Xm kd R x):=by
 by_cases h:Xp kd R x
 ·rw [(Yd h).2];omega
 ·rw [YE h];exact zr _
theorem QAJ(kd:Int->Int):∀(E:List Ent) (R:List Bool),(ZE kd E R).length=R.length
 |[],R=>rfl
 |x::E,R=>by
  show(ZE kd E (Xm kd R x)).length=_;rw[QAJ kd E,QLG]
theorem QAK(kd:Int->Int):∀(E:List Ent) (R:List Bool),Xj R<=Xj (ZE kd E R)
 |[],R=>zr _
 |x::E,R=>y9 (QLH kd R x) (QAK kd E (Xm kd R x))
variable {E:List Ent}
theorem QIc(kd:Int->Int){x:Ent}(h:E[k]? =some x)(R:List Bool):ZE kd (E.take (k+1)) R=Xm kd (ZE kd (E.take k) R) x:=by
 unfold ZE;rw[qy,h,vr];rfl
theorem QJq(R:List Bool):Xj R<=R.length:=List.countP_le_length
theorem Ye(kd:Int->Int)(E:List Ent):∀(n m:Nat) (R:List Bool),Zp kd E (n+m) R=Zp kd E m (Zp kd E n R)
 |0,m,R=>by rw[y5];rfl
 |n+1,m,R=>by
  rw[show n+1+m=(n+m)+1 by omega];exact Ye kd E n m (ZE kd E R)
theorem QEi(kd:Int->Int)(E:List Ent)(h:ZE kd E R=R):∀n,Zp kd E n R=R
 |0=>rfl
 |n+1=>by show Zp kd E n (ZE kd E R)=R;rw[h];exact QEi kd E h n
theorem Yf(kd:Int->Int)(E:List Ent):∀(n:Nat) (R:List Bool),(Zp kd E n R).length=R.length
 |0,R=>rfl
 |n+1,R=>by show(Zp kd E n (ZE kd E R)).length=_;rw[Yf kd E n,QAJ]
def R0:List Bool:=true::List.replicate 15 false
def Q2(kd:Int->Int)(E:List Ent):List Bool:=Zp kd E 16 R0
theorem QGq(kd:Int->Int)(E:List Ent)(hj:j<=16)(h:ZE kd E (Zp kd E j R0)=Zp kd E j R0):Zp kd E j R0=Q2 kd E:=by
 unfold Q2;rw[show 16=j+(16-j) by omega,Ye,QEi kd E h]
def Zt(x:Ino):List Int:=[x.b0,x.b1,x.b2,x.b3]
def Xq(P:Nat->Nat->Bool)(q:Nat):List (Int×Int):=((List.range q).filter λj=>P (j/24+1) (j % 24)).map λj=>(((j/24+1:Nat):Int),((j % 24:Nat):Int))
def Ja(own:Nat->Nat)(q:Nat):List (Int×Int):=((List.range q).filter λj=>decide (1<own (j+1))).map λj=>(6,((j+1:Nat):Int))
variable {P:Nat->Nat->Bool}
theorem QMc(hk:k<24)(h:P (i+1) k=true):Xq P (24*i+(k+1))=Xq P (24*i+k)++[(((i+1:Nat):Int),(k:Int))]:=by
 unfold Xq;rw[show 24*i+(k+1)=(24*i+k)+1 by omega,x3,x6,yh];have e1:(24*i+k)/24=i:=by omega
 have e2:(24*i+k) % 24=k:=by omega
 have e3:(24*(i:Int)+k)/24=i:=by omega
 have e4:(k:Int) % 24=k:=by omega
 simp[e1,e2,e3,e4,h]
theorem QJr(hk:k<24)(h:P (i+1) k=false):Xq P (24*i+(k+1))=Xq P (24*i+k):=by
 unfold Xq;rw[show 24*i+(k+1)=(24*i+k)+1 by omega,x3,x6,yh];have e1:(24*i+k)/24=i:=by omega
 have e2:(24*i+k) % 24=k:=by omega
 simp[e1,e2,h]
theorem QMd{own:Nat->Nat}(h:1<own (k+1)):Ja own (k+1)=Ja own k++[(6,((k+1:Nat):Int))]:=by
 unfold Ja;rw[x3,x6,yh];simp[h]
theorem QJs{own:Nat->Nat}(h:¬1<own (k+1)):Ja own (k+1)=Ja own k:=by
 unfold Ja;rw[x3,x6,yh];simp[h]
theorem QMe(P:Nat->Nat->Bool)(q:Nat):(Xq P q).length<=q:=by
 unfold Xq;rw[ze];exact y9 (wq _ _) (by rw[yy];exact zr _)
theorem QMf(own:Nat->Nat)(q:Nat):(Ja own q).length<=q:=by
 unfold Ja;rw[ze];exact y9 (wq _ _) (by rw[yy];exact zr _)
theorem QQt{α:Type}(pre M post l:List α)(j:Nat)(h:j+l.length<=M.length):
  (pre++M++post).take (pre.length+j)++l++(pre++M++post).drop (pre.length+j+l.length)=pre++(M.take j++l++M.drop (j+l.length))++post:=by
 have e1:(pre++M++post).take (pre.length+j)=pre++M.take j:=by
  rw[y7,We,yd om,We];rw[show pre.length+j-pre.length=j by omega,show j-M.length=0 by omega];simp
 have e2:(pre++M++post).drop (pre.length+j+l.length)=M.drop (j+l.length)++post:=by
  rw[y7,vo,wn om,y6,vo];rw[show pre.length+j+l.length-pre.length=j+l.length by omega,show j+l.length-M.length=0 by omega];simp
 rw[e1,e2];simp only[y7]
theorem Zd{α β:Type}{enc:α->List β}(h:∀x,(enc x).length=sz):∀L:List α,(L.flatMap enc).length=L.length*sz
 |[]=>by simp
 |x::L=>by rw[uz,zu,h,Zd h L,yo,z6];omega
theorem QJt{α β:Type}{enc:α->List β}(h:∀x,(enc x).length=sz):∀(L:List α) (i:Nat),(L.flatMap enc).take (i*sz)=(L.take i).flatMap enc
 |[],i=>by simp
 |x::L,0=>by simp
 |x::L,i+1=>by
  rw[W6,uz,uz,z6,je,We,yd (by rw[h];omega),h,show i*sz+sz-sz=i*sz by omega,QJt h L i]
theorem QFV{α β:Type}{enc:α->List β}(h:∀x,(enc x).length=sz):∀(L:List α) (i:Nat),(L.flatMap enc).drop (i*sz)=(L.drop i).flatMap enc
 |[],i=>by simp
 |x::L,0=>by simp
 |x::L,i+1=>by
  rw[u6,uz,z6,je,vo,wn (by rw[h];omega),h,show i*sz+sz-sz=i*sz by omega,QFV h L i,y6]
theorem QQu{α β:Type}{enc:α->List β}(h:∀x,(enc x).length=sz)(L:List α)(i:Nat)(x:α)(hi:i<L.length):
  (L.flatMap enc).take (i*sz)++enc x++(L.flatMap enc).drop (i*sz+(enc x).length)=(L.set i x).flatMap enc:=by
 rw[h,show i*sz+sz=(i+1)*sz by rw[z6];omega,QJt h,QFV h,u5,if_pos hi,List.flatMap_append,uz,y7]
theorem QDQ{α β:Type}{enc:α->List β}(h:∀x,(enc x).length=sz)(pre post:List β)(L:List α)(i:Nat)(x:α)(hx:L[i]? =some x):
  ((pre++L.flatMap enc++post).drop (pre.length+i*sz)).take sz=enc x:=by
 have hi:=(yb.1 hx).1;have e2:(pre++L.flatMap enc++post).drop (pre.length+i*sz)=(L.drop i).flatMap enc++post:=by
  rw[y7,vo,wn om,y6,vo];rw[show pre.length+i*sz-pre.length=i*sz by omega,QFV h];have:i*sz-(L.flatMap enc).length=0:=by
   rw[Zd h];have:=zw sz (qd hi);omega
  rw[this];simp
 have e3:L.drop i=x::L.drop (i+1):=by
  rw[ji hi,(yb.1 hx).2]
 rw[e2,e3,uz,y7,ud (by rw[h];omega),yd (by rw[h];omega)]
theorem QFW{α β:Type}{enc:α->List β}(h:∀x,(enc x).length=sz)(pre post:List β)(L:List α)(i:Nat)(x:α)(hi:i<L.length){b:Nat}(ha:a=pre.length+i*sz)(hb:b=a+sz):
  (pre++L.flatMap enc++post).take a++enc x++(pre++L.flatMap enc++post).drop b=pre++(L.set i x).flatMap enc++post:=by
 subst ha hb;have hl:i*sz+(enc x).length<=(L.flatMap enc).length:=by
  rw[Zd h,h];have:=zw sz hi;rw[Va]at this;exact this
 have:=QQt pre (L.flatMap enc) post (enc x) (i*sz) hl;rw[QQu h L i x hi,h]at this;exact this
def Qk(d:Option Dk)(I:List Ino)(E:List Ent)(R:List Bool):List D:=[QQ d]++I.flatMap ZM++E.flatMap Qt++R.flatMap λb=>[D.bl b]
theorem Zi(x:Ino):(ZM x).length=6:=rfl
theorem Xb(x:Ent):(Qt x).length=4:=rfl
structure XOK(I:List Ino)(E:List Ent)(R:List Bool):Prop where
 i:I.length=16
 e:E.length=24
 r:R.length=16
 p:∀x∈E,x.u=true->0<=x.p/\x.p<16/\1<=x.t/\x.t<16
variable {x y:Ino}
section
variable {d:Option Dk} {I:List Ino} {E:List Ent} {R:List Bool}
theorem QGr(h:XOK I E R):(Qk d I E R).length=209:=by
 unfold Qk;simp only[zu,Zd Zi,Zd Xb,Zd (enc:=λb=>[D.bl b]) (sz:=1) (λ_=>rfl),h.i,h.e,h.r];rfl
theorem QUc:(Qk d I E R).drop 1=I.flatMap ZM++E.flatMap Qt++R.flatMap λb=>[D.bl b]:=rfl
theorem QQA(h:XOK I E R):(Qk d I E R).drop 97=E.flatMap Qt++R.flatMap λb=>[D.bl b]:=by
 unfold Qk;rw[y7,vo,wn (by simp[Zd Zi,h.i]),y6];simp[Zd Zi,h.i]
theorem QId(h:XOK I E R):(Qk d I E R).drop 193=R.flatMap λb=>[D.bl b]:=by
 unfold Qk;rw[vo,wn (by simp[Zd Zi,Zd Xb,h.i,h.e]),y6];simp[Zd Zi,Zd Xb,h.i,h.e]
theorem QUd{n:Int}(hb:R[n.toNat]? =some b):((R.flatMap λb=>[D.bl b]).drop (n.toNat*1)).take 1=[.bl b]:=by
 have:=QDQ (enc:=λb=>[D.bl b]) (sz:=1) (λ_=>rfl) [] [] R n.toNat b hb;simpa using this
theorem QSl{n:Int}(hx:I[n.toNat]? =some x):((I.flatMap ZM++E.flatMap Qt++R.flatMap λb=>[D.bl b]).drop (n.toNat*6)).take 6=ZM x:=by
 have:=QDQ Zi [] (E.flatMap Qt++R.flatMap λb=>[D.bl b]) I n.toNat x hx;simpa using this
theorem QUe{n:Int}{x:Ent}(hx:E[n.toNat]? =some x):((E.flatMap Qt++R.flatMap λb=>[D.bl b]).drop (n.toNat*4)).take 4=Qt x:=by
 have:=QDQ Xb [] (R.flatMap λb=>[D.bl b]) E n.toNat x hx;simpa using this
end
def QCm(I:List Ino)(R:List Bool)(x:Ent):Prop:=x.u=true/\R.getD x.p.toNat false=true/\(I.getD x.p.toNat ZZ).k=2
instance(I:List Ino)(R:List Bool)(x:Ent):Decidable (QCm I R x):=by unfold QCm;infer_instance
variable {I:List Ino}
theorem QGs{d:Option Dk}(h:XOK I E R){x:Ent}(hx:x∈E):FnC Tryz.prog 186 [.d (.fp 209 (Qk d I E R)),.dg 4 (Qt x)] (.d (.bl (decide (QCm I R x)))):=by
 have h193:=QId (d:=d) h;cases hu:x.u with
 |false=>
  have hxe:Qt x=[.bl false,.it .i64 x.p,.st x.n,.it .i64 x.t]:=by rw[Qt,hu]
  rw[hxe];refine QK QQc ?_;(repeat' (conv=>whnf);first|refine QC ?_|intro x hx hu|intro h|apply sS);exact YX (λq=>by rw[q.1]at hu;cases hu)
 |true=>
  have hxe:Qt x=[.bl true,.it .i64 x.p,.st x.n,.it .i64 x.t]:=by rw[Qt,hu]
  rw[hxe];obtain⟨p1,p2,_,_⟩:=h.p x hx hu;obtain⟨r,hr⟩:=Q8 (l:=R) (k:=x.p.toNat) (by rw[h.r];omega);obtain⟨y,hy⟩:=Q8 (l:=I) (k:=x.p.toNat) (by rw[h.i];omega);have hP:QCm I R x↔r=true/\y.k=2:=by
   unfold QCm;rw[zo,hr,zo,hy];exact⟨λq=>q.2,λq=>⟨hu,q⟩⟩
  have hR:=QUd hr;have hI:=QSl (E:=E) (R:=R) hy;cases r with
  |false=>
   refine QK QQc ?_;(repeat' (conv=>whnf);first|refine AtD.eq h193 ?_|refine AtD.eq hR ?_|refine AtD.eq hI ?_|refine AtD.now ?_|refine QC ?_|intro x hx hu|intro h|apply sS);exact YX (λq=>by have:=(hP.1 q).1;cases this)
  |true=>
   refine QK QQc ?_;(repeat' (conv=>whnf);first|refine AtD.eq h193 ?_|refine AtD.eq hR ?_|refine AtD.eq hI ?_|refine AtD.now ?_|refine QC ?_|intro x hx hu|intro h|apply sS);refine QJk ?_;rw[beq_iff_eq,hP];exact⟨λq=>⟨rfl,q⟩,λq=>q.2⟩
section
variable {d:Option Dk} {I:List Ino} {E:List Ent} {R:List Bool}
theorem QMg(h:XOK I E R)(hb:R[n]? =some b)(ha:ty.kd.agg=false){off:Nat}(ho:off=193+n*1):ldA ty off ((Qk d I E R).map AV.d)= .d (.bl b):=by
 subst ho;unfold ldA;rw[ha,cond_false,zo,y8];have e:=QDQ (enc:=λb=>[D.bl b]) (sz:=1) (λ_=>rfl) [] [] R n b hb;have e2:(Qk d I E R)[193+n*1]? =some (.bl b):=by
  have h1:((Qk d I E R).drop 193)[n*1]? =(Qk d I E R)[193+n*1]? :=wo;rw[<-h1,QId h];have h2:(((R.flatMap λb=>[D.bl b]).drop (n*1)).take 1)[0]? =some (.bl b):=by
   have:(((R.flatMap λb=>[D.bl b]).drop (n*1)).take 1)=[.bl b]:=by simpa using e
   rw[this];rfl
  rw[x9,if_pos (by decide),wo]at h2;simpa using h2
 rw[e2];rfl
theorem QMh(h:XOK I E R)(hx:I[n]? =some x)(ha:ty.kd.agg=false){off:Nat}(ho:off=1+n*6+0):ldA ty off ((Qk d I E R).map AV.d)= .d (.it .i64 x.k):=by
 subst ho;unfold ldA;rw[ha,cond_false,zo,y8];have e:=QDQ Zi [QQ d] (E.flatMap Qt++R.flatMap λb=>[D.bl b]) I n x hx;have e2:(Qk d I E R)[1+n*6]? =some (.it .i64 x.k):=by
  have h2:(((Qk d I E R).drop (1+n*6)).take 6)[0]? =some (.it .i64 x.k):=by
   have:((Qk d I E R).drop (1+n*6)).take 6=ZM x:=by
    unfold Qk;rw[y7 ([QQ d]++_)];exact e
   rw[this];rfl
  rw[x9,if_pos (by decide),wo]at h2;simpa using h2
 rw[show 1+n*6+0=1+n*6 from rfl,e2];rfl
theorem QSm(h:XOK I E R)(ha:ty.kd.agg=true)(hz:ty.size=96):ldA ty 97 ((Qk d I E R).map AV.d)= .dg 96 (E.flatMap Qt):=by
 unfold ldA;rw[ha,cond_true,hz];have e:(((Qk d I E R).map AV.d).drop 97).take 96=(E.flatMap Qt).map AV.d:=by
  rw[<-ut,QQA h,<-vk,un (by rw[Zd Xb,h.e])]
 rw[e];unfold QDo;rw[XB]
theorem QQB(h:XOK I E R)(hn:n<16)(hi:i=193+n*1)(hj:j=i+1):
  ((Qk d I E R).map AV.d).take i++[AV.d (.bl b)]++((Qk d I E R).map AV.d).drop j=(Qk d I E (R.set n b)).map AV.d:=by
 have e:=QFW (enc:=λb=>[D.bl b]) (sz:=1) (λ_=>rfl) ([QQ d]++I.flatMap ZM++E.flatMap Qt) [] R n b (by rw[h.r];exact hn) (a:=i) (b:=j)
  (by simp[Zd Zi,Zd Xb,h.i,h.e];omega) hj
 rw[<-vk,<-ut];have e':(Qk d I E R).take i++[D.bl b]++(Qk d I E R).drop j=Qk d I E (R.set n b):=by
  simpa [Qk]using e
 rw[<-e',yh,yh];rfl
end
def kdI(I:List Ino)(n:Int):Int:=(I.getD n.toNat ZZ).k
theorem QMi(h:XOK I E R)(kd:Int->Int)(L:List Ent):XOK I E (ZE kd L R):=⟨h.i,h.e,by rw[QAJ];exact h.r,h.p⟩
theorem QJu{n:Int}{x:Ent}(hx:E[n.toNat]? =some x)(ha:ty.kd.agg=true)(hz:ty.size=4):ldD ty ((E.flatMap Qt).drop (n.toNat*4))= .dg 4 (Qt x):=by
 unfold ldD;rw[ha,cond_true,hz];have:=QDQ Xb [] [] E n.toNat x hx;have e:((E.flatMap Qt).drop (n.toNat*4)).take 4=Qt x:=by simpa using this
 rw[e]
def rpA(d:Option Dk)(I:List Ino)(E:List Ent)(R:List Bool)(T:Nat)(k:Nat)(R':List Bool)(m:Bool):S:=
 ⟨[(0,.ptr 0 0),(3,.d (.bl m)),(9,.dg 96 (E.flatMap Qt)),(10,.d (.it .i64 (k:Nat)))],[(0,.cells 209 ((Qk d I E R').map .d)),(1,.frame 2 [(0,.ptr 0 0)]),(2,.tag 0 T)],3⟩
theorem QDR(d:Option Dk)(I:List Ino)(E:List Ent)(R:List Bool)(T:Nat)(k:Nat)(R':List Bool)(m:Bool):(rpA d I E R T k R' m).ok=true:=by
 unfold rpA;simp only[S.ok,xc,xv,Ob.lt,XX];rfl
theorem QSn(d:Option Dk)(I:List Ino)(E:List Ent)(R:List Bool):(Ob.cells 209 ((Qk d I E R).map .d)).m1 false=true:=by
 show(!false&&(Sy.allD _).isSome)=true;rw[XB];rfl
def rpI(I:List Ino)(E:List Ent)(R:List Bool)(x:Nat×List Bool×Bool):Prop:=x.1<=24/\x.2.1=ZE (kdI I) (E.take x.1) R/\x.2.2=decide (Xj R<Xj x.2.1)
theorem QMj{d:Option Dk}(h:XOK I E R):
  FnM Tryz.prog 150 false [.ptr 0 0] (.cells 209 ((Qk d I E R).map .d)) (.cells 209 ((Qk d I E (ZE (kdI I) E R)).map .d)) (.d (.bl (decide (Xj R<Xj (ZE (kdI I) E R))))):=by
 refine FnM.intro QE Tryz.func150 rfl Tryz.ntmps150 Tryz.call150 rfl (QSn ..) (QSn ..) rfl (bll rfl) .cells ?_;intro T;have hl0:=XB (Qk d I E R);(repeat' (conv=>whnf);first|refine AtA.eq (QSm h rfl rfl) ?_|refine QC ?_|intro x hx hu|intro h|apply sS);conv=>whnf
 refine Qu QE (rpI I E R) (λx=>rpA d I E R T x.1 x.2.1 x.2.2) (λx=>24-x.1) (0,R,false) ⟨yc _,rfl,by simp⟩ ⟨ai rfl rr,ai rfl rr,QDR ..⟩ ?_;intro⟨k,R',m⟩ hk0;have hkl:=hk0.1;have hRk:=hk0.2.1;have hm:=hk0.2.2;dsimp only at hkl hRk hm;by_cases hk:k<24
 ·have hg:E[k]? =some (E[k]'(by rw[h.e];exact hk)):=zk _;have hmem:E[k]'(by rw[h.e];exact hk)∈E:=zt _;have hsn:=QIc (kdI I) hg R;have hx:=QMi h (kdI I) (E.take k);have hc1:=QAK (kdI I) (E.take k) R;rw[<-hRk]at hsn hx hc1;generalize E[k]'(by rw[h.e];exact hk)=e at hg hmem hsn;have hgI:E[((k:Nat):Int).toNat]? =some e:=hg;have hs:=QGs (d:=d) hx hmem;have hal:=XB (Qk d I E R');have hdr:(((Qk d I E R').map AV.d).drop 0).take 209=(Qk d I E R').map AV.d:=by
   rw[v7,yd (by rw[ze,QGr hx];exact zr _)]
  by_cases hsp:QCm I R' e
  ·rw [decide_eq_true hsp]at hs;have hu:=hsp.1;have hp:=h.p e hmem hu;have hr:R'[e.t.toNat]? =some (R'[e.t.toNat]'(by rw[hx.r];omega)):=zk _;have hy:I[e.t.toNat]? =some (I[e.t.toNat]'(by rw[h.i];omega)):=zk _;generalize R'[e.t.toNat]'(by rw[hx.r];omega)=r at hr;generalize I[e.t.toNat]'(by rw[h.i];omega)=y at hy;have hT:Xp (kdI I) R' e↔r=false/\y.k≠0:=by
    unfold Xp kdI;rw[zo (l:=R') (i:=e.t.toNat),hr,zo (l:=I) (i:=e.t.toNat),hy];exact⟨λq=>⟨q.2.2.2.2.1,q.2.2.2.1⟩,λq=>⟨hu,hsp.2.1,hsp.2.2,q.2,q.1,by rw[hx.r];omega⟩⟩
   by_cases hrr:r=true
   ·have hst:=hsn.trans (YE (λq=>by have:=(hT.1 q).1;rw[hrr]at this;cases this));rw[hrr]at hr;(repeat' (conv=>whnf);first|refine AtA.eq (QJu hgI rfl rfl) ?_|refine AtA.eq (QMg hx hr rfl rfl) ?_|refine AtA.eq (QMh hx hy rfl rfl) ?_|refine JB.mk ⟨[AV.d (.fp 209 (Qk d I E R')),.dg 4 (Qt e)],_,ai ⟨209,_,by with_unfolding_all exact rfl,zr _,QGr hx,(congrArg Je hdr).trans (QBd _)⟩ (ai wu trivial),hs,rfl,?_⟩|refine QC ?_|intro x hx hu|intro h|apply sS);refine again (k+1,R',m) ⟨hk,hst.symm,hm⟩ (by dsimp only;omega) (ai rfl (ai rfl (ai rfl (ai (QM (by dsimp only;omega)) trivial)))) rr (QDR ..)
   ·have hrf:r=false:=by simpa using hrr
    rw[hrf]at hr;by_cases hyk:y.k=0
    ·have hst:=hsn.trans (YE (λq=>(hT.1 q).2 hyk));(repeat' (conv=>whnf);first|refine AtA.eq (QJu hgI rfl rfl) ?_|refine AtA.eq (QMg hx hr rfl rfl) ?_|refine AtA.eq (QMh hx hy rfl rfl) ?_|refine JB.mk ⟨[AV.d (.fp 209 (Qk d I E R')),.dg 4 (Qt e)],_,ai ⟨209,_,by with_unfolding_all exact rfl,zr _,QGr hx,(congrArg Je hdr).trans (QBd _)⟩ (ai wu trivial),hs,rfl,?_⟩|refine QC ?_|intro x hx hu|intro h|apply sS);refine again (k+1,R',m) ⟨hk,hst.symm,hm⟩ (by dsimp only;omega) (ai rfl (ai rfl (ai rfl (ai (QM (by dsimp only;omega)) trivial)))) rr (QDR ..)
    ·have hty:=Yd (hT.2 ⟨hrf,hyk⟩);have hst:=hsn.trans hty.1;(repeat' (conv=>whnf);first|refine AtA.eq (QJu hgI rfl rfl) ?_|refine AtA.eq (QMg hx hr rfl rfl) ?_|refine AtA.eq (QMh hx hy rfl rfl) ?_|refine JB.mk ⟨[AV.d (.fp 209 (Qk d I E R')),.dg 4 (Qt e)],_,ai ⟨209,_,by with_unfolding_all exact rfl,zr _,QGr hx,(congrArg Je hdr).trans (QBd _)⟩ (ai wu trivial),hs,rfl,?_⟩|refine QC ?_|intro x hx hu|intro h|apply sS);have hmt:true=decide (Xj R<Xj (R'.set e.t.toNat true)):=by
      rw[eq_comm,decide_eq_true_eq,<-hty.1,hty.2];omega
     refine again (k+1,R'.set e.t.toNat true,true) ⟨hk,hst.symm,hmt⟩ (by dsimp only;omega) (ai rfl (ai rfl (ai rfl (ai (QM (by dsimp only;omega)) trivial)))) (ai (Qo rfl (QQB hx om rfl rfl)) rr) (QDR ..)
  ·rw [decide_eq_false hsp]at hs;have hno:¬Xp (kdI I) R' e:=λq=>hsp ⟨q.1,q.2.1,q.2.2.1⟩;have hst:=hsn.trans (YE hno);(repeat' (conv=>whnf);first|refine AtA.eq (QJu hgI rfl rfl) ?_|refine JB.mk ⟨[AV.d (.fp 209 (Qk d I E R')),.dg 4 (Qt e)],_,ai ⟨209,_,by with_unfolding_all exact rfl,zr _,QGr hx,(congrArg Je hdr).trans (QBd _)⟩ (ai wu trivial),hs,rfl,?_⟩|refine QC ?_|intro x hx hu|intro h|apply sS);refine again (k+1,R',m) ⟨hk,hst.symm,hm⟩ (by dsimp only;omega) (ai rfl (ai rfl (ai rfl (ai (QM (by dsimp only;omega)) trivial)))) rr (QDR ..)
 ·have hk24:E.take k=E:=yd (by rw[h.e];omega);rw[hk24]at hRk;(repeat' (conv=>whnf);first|refine QC ?_|intro x hx hu|intro h|apply sS);refine⟨⟨[(2,.d (.bl m))],[(0,.cells 209 ((Qk d I E R').map .d)),(1,.frame 2 [(0,.ptr 0 0)]),(2,.tag 0 T)],3⟩,Wk.en ⟨ai rfl trivial,ai rfl rr,?_⟩,?_,?_,rfl,rfl⟩
  ·simp only[S.ok,xc,xv,Ob.lt,XX];rfl
  ·show AV.d (.bl m)= .d (.bl (decide (Xj R<Xj (ZE (kdI I) E R))));rw[hm,hRk]
  ·show some (Ob.cells 209 ((Qk d I E R').map .d))=_;rw[hRk]
def xI(f:Int->List UInt8)(n:Nat):List Ino:=(List.range 16).map λi:Nat=>if i<n then QF f (i:Nat)else ZZ
def xE(f:Int->List UInt8)(n:Nat):List Ent:=(List.range 24).map λi:Nat=>if i<n then QA f (i:Nat)else ZG
theorem QFX(f:Int->List UInt8)(n:Nat):(xI f n).length=16:=by unfold xI;rw[ze,yy]
theorem QBw(f:Int->List UInt8)(n:Nat):(xE f n).length=24:=by unfold xE;rw[ze,yy]
theorem QIe(f:Int->List UInt8)(n i:Nat)(h:i<(xI f n).length):(xI f n)[i]=if i<n then QF f (i:Nat)else ZZ:=by simp[xI]
theorem QQv(f:Int->List UInt8)(h:n<16):(xI f n).set n (QF f (n:Nat))=xI f (n+1):=by
 refine vy (by rw[wp,QFX,QFX]) λi h1 h2=>?_;rw[vp,QIe,QIe];by_cases hi:n=i
 ·subst hi;rw[if_pos rfl,if_pos om]
 ·rw [if_neg hi];by_cases h3:i<n
  ·rw [if_pos h3,if_pos om]
  ·rw [if_neg h3,if_neg om]
theorem QDS(f:Int->List UInt8)(n i:Nat)(h:i<(xE f n).length):(xE f n)[i]=if i<n then QA f (i:Nat)else ZG:=by simp[xE]
theorem QQw(f:Int->List UInt8)(h:n<24):(xE f n).set n (QA f (n:Nat))=xE f (n+1):=by
 refine vy (by rw[wp,QBw,QBw]) λi h1 h2=>?_;rw[vp,QDS,QDS];by_cases hi:n=i
 ·subst hi;rw[if_pos rfl,if_pos om]
 ·rw [if_neg hi];by_cases h3:i<n
  ·rw [if_pos h3,if_pos om]
  ·rw [if_neg h3,if_neg om]
theorem QDT(f:Int->List UInt8)(k:Int):RE (QA f k):=by
 unfold QA;split
 ·unfold Jo;split
  ·rename_i h;exact h.1
  ·exact .inl ⟨rfl,rfl,rfl,rfl⟩
 ·exact .inl ⟨rfl,rfl,rfl,rfl⟩
theorem QGt(f:Int->List UInt8)(n k:Nat)(hR:R.length=16):XOK (xI f n) (xE f k) R:=by
 refine⟨QFX f n,QBw f k,hR,λx hx hu=>?_⟩;obtain⟨i,_,rfl⟩:=ye.1 hx;have hx':RE (if i<k then QA f (i:Nat)else ZG):=by
  split
  ·exact QDT f i
  ·exact .inl ⟨rfl,rfl,rfl,rfl⟩
 rcases hx' with h|h
 ·rw [hu]at h;cases h.1
 ·exact ⟨h.2.1,h.2.2.1,h.2.2.2.1,h.2.2.2.2.1⟩
theorem QSo{d:Option Dk}(h:XOK I E R)(hn:n<16)(hi:i=1+n*6)(hj:j=i+6):
  ((Qk d I E R).map AV.d).take i++(ZM y).map AV.d++((Qk d I E R).map AV.d).drop j=(Qk d (I.set n y) E R).map AV.d:=by
 have e:=QFW Zi [QQ d] (E.flatMap Qt++R.flatMap λb=>[D.bl b]) I n y (by rw[h.i];exact hn) (a:=i) (b:=j) (by simpa using hi) hj;rw[<-vk,<-ut];have e':(Qk d I E R).take i++ZM y++(Qk d I E R).drop j=Qk d (I.set n y) E R:=by
  unfold Qk;rw[y7 ([QQ d]++I.flatMap ZM),y7 ([QQ d]++(I.set n y).flatMap ZM)];exact e
 rw[<-e',yh,yh]
theorem QSp{d:Option Dk}(h:XOK I E R)(hn:n<24){y:Ent}(hi:i=97+n*4)(hj:j=i+4):
  ((Qk d I E R).map AV.d).take i++(Qt y).map AV.d++((Qk d I E R).map AV.d).drop j=(Qk d I (E.set n y) R).map AV.d:=by
 have e:=QFW Xb ([QQ d]++I.flatMap ZM) (R.flatMap λb=>[D.bl b]) E n y (by rw[h.e];exact hn) (a:=i) (b:=j) (by simp[Zd Zi,h.i];omega) hj;rw[<-vk,<-ut];have e':(Qk d I E R).take i++Qt y++(Qk d I E R).drop j=Qk d I (E.set n y) R:=e;rw[<-e',yh,yh]
def rdA(d:Option Dk)(s:Nat)(k:Nat)(I:List Ino)(E:List Ent)(R:List Bool):S:=
 ⟨[(0,.d (QQ d)),(3,.ptr 0 0),(s,.d (.it .i64 (k:Nat)))],[(0,.cells 209 ((Qk d I E R).map .d))],1⟩
theorem QFY(d:Option Dk)(s:Nat)(k:Nat)(I:List Ino)(E:List Ent)(R:List Bool):(rdA d s k I E R).ok=true:=by
 unfold rdA;simp only[S.ok,xc,xv,Ob.lt,XX];rfl
def rdI(f:Int->List UInt8)(x:Nat×List Ino):Prop:=x.1<=16/\x.2=xI f x.1
def QUf(f:Int->List UInt8)(x:Nat×List Ent):Prop:=x.1<=24/\x.2=xE f x.1
theorem QBx(kd:Int->Int):∀(E:List Ent) (R:List Bool),¬Xj R<Xj (ZE kd E R)->ZE kd E R=R
 |[],R,_=>rfl
 |x::E,R,h=>by
  have h1:ZE kd (x::E) R=ZE kd E (Xm kd R x):=rfl;rw[h1]at h⊢;have h2:=QAK kd E (Xm kd R x);by_cases ht:Xp kd R x
  ·have:=(Yd ht).2;omega
  ·rw [YE ht]at h⊢;exact QBx kd E R h
def rcI(kd:Int->Int)(E:List Ent)(x:Nat×List Bool):Prop:=x.2=Zp kd E x.1 R0/\x.1+1<=Xj x.2/\x.2.length=16
def rcA(d:Option Dk)(I:List Ino)(E:List Ent)(R:List Bool):S:=⟨[(0,.d (QQ d)),(3,.ptr 0 0)],[(0,.cells 209 ((Qk d I E R).map .d))],1⟩
theorem QMk(d:Option Dk)(I:List Ino)(E:List Ent)(R:List Bool):(rcA d I E R).ok=true:=by
 unfold rcA;simp only[S.ok,xc,xv,Ob.lt,XX];rfl
def F16:List Bool:=List.replicate 16 false
theorem QDU(d:Option Dk)(hd:Zs d):FnC Tryz.prog 98 [.d (QQ d)] (.d (.fp 209 (Qk d (xI (rdS d) 16) (xE (rdS d) 24) (Q2 (kdI (xI (rdS d) 16)) (xE (rdS d) 24))))):=by
 have hi:=λn=>YD d hd n;have he:=λn=>XC d hd n;refine QK i98 ?_;(repeat' (conv=>whnf);first|refine QC ?_|intro x hx hu|intro h|apply sS);conv=>whnf
 refine Qu QE (rdI (rdS d)) (λx=>rdA d 9 x.1 x.2 (xE (rdS d) 0) F16) (λx=>16-x.1) (0,xI (rdS d) 0) ⟨yc _,rfl⟩ ⟨ai rfl rr,ai (Qo rfl wu) trivial,QFY ..⟩ ?_;intro⟨k,L⟩ hk0;have hkl:=hk0.1;have hL:=hk0.2;dsimp only at hkl hL;by_cases hk:k<16
 ·have hX:=QGt (rdS d) k 0 (R:=F16) rfl;rw[<-hL]at hX;have hik:=hi (k:Nat);have hset:=QQv (rdS d) hk;rw[<-hL]at hset;(repeat' (conv=>whnf);first|refine cEk hik ?_|refine Zk.mk ⟨_,hik,?_⟩|refine QC ?_|intro x hx hu|intro h|apply sS);refine again (k+1,L.set k (QF (rdS d) (k:Nat))) ⟨hk,hset⟩ (by dsimp only;omega) (ai rfl (ai rfl (ai (QM (by dsimp only;omega)) trivial))) (ai (Qo rfl (QSo hX hk rfl rfl)) trivial) (QFY ..)
 ·have hk16:k=16:=by omega
  rw[hk16]at hL;(repeat' (conv=>whnf);first|refine QC ?_|intro x hx hu|intro h|apply sS);conv=>whnf
  refine Qu QE (QUf (rdS d)) (λx=>rdA d 21 x.1 L x.2 F16) (λx=>24-x.1) (0,xE (rdS d) 0) ⟨yc _,rfl⟩ ⟨ai rfl rr,ai rfl trivial,QFY ..⟩ ?_;intro⟨k2,M⟩ hk1;have hk2l:=hk1.1;have hM:=hk1.2;dsimp only at hk2l hM;have hX:=QGt (rdS d) 16 k2 (R:=F16) rfl;rw[<-hL,<-hM]at hX;by_cases hk2:k2<24
  ·have hek:=he (k2:Nat);have hset:=QQw (rdS d) hk2;rw[<-hM]at hset;(repeat' (conv=>whnf);first|refine cEk hek ?_|refine Zk.mk ⟨_,hek,?_⟩|refine QC ?_|intro x hx hu|intro h|apply sS);refine again (k2+1,M.set k2 (QA (rdS d) (k2:Nat))) ⟨hk2,hset⟩ (by dsimp only;omega) (ai rfl (ai rfl (ai (QM (by dsimp only;omega)) trivial))) (ai (Qo rfl (QSp hX hk2 rfl rfl)) trivial) (QFY ..)
  ·have hk24:k2=24:=by omega
   rw[hk24]at hM;(repeat' (conv=>whnf);first|refine QC ?_|intro x hx hu|intro h|apply sS);conv=>whnf
   refine Qu QE (rcI (kdI L) M) (λx=>rcA d L M x.2) (λx=>16-x.1) (0,R0) ⟨rfl,by decide,rfl⟩ ⟨ai rfl rr,ai (Qo rfl (QQB (n:=0) hX (by decide) rfl rfl)) trivial,QMk ..⟩ ?_;intro⟨j,R⟩ hj0;have hj:=hj0.1;have hjc:=hj0.2.1;have hjl:=hj0.2.2;dsimp only at hj hjc hjl;have hY:XOK L M R:=⟨hX.i,hX.e,hjl,hX.p⟩;have hr:=QMj (d:=d) hY;have hle:=QJq R;rw[hjl]at hle;by_cases hm:Xj R<Xj (ZE (kdI L) M R)
   ·rw [decide_eq_true hm]at hr;(repeat' (conv=>whnf);first|refine CallI.byM hr wu rfl ?_|refine QC ?_|intro x hx hu|intro h|apply sS);refine again (j+1,ZE (kdI L) M R) ⟨?_,by dsimp only;omega,by dsimp only;rw[QAJ];exact hjl⟩ (by dsimp only;omega) rr rr (QMk ..);show ZE (kdI L) M R=Zp (kdI L) M (j+1) R0;rw[Ye,<-hj];rfl
   ·rw [decide_eq_false hm]at hr;have hfix:=QBx (kdI L) M R hm;have hre:=QGq (kdI L) M (j:=j) om (by rw[<-hj];exact hfix);rw[<-hj]at hre;(repeat' (conv=>whnf);first|refine CallI.byM hr wu rfl ?_|refine QC ?_|intro x hx hu|intro h|apply sS);refine⟨Qk d L M (ZE (kdI L) M R),⟨yc _,rfl⟩,?_⟩;show AV.d (.fp (209-0) _)=_;rw[hfix,hre,hL,hM]
def QGu(d:Option Dk)(k:Int):Prop:=QFT d (17+k)/\Q5 (rdS d (17+k))=false
instance(d:Option Dk)(k:Int):Decidable (QGu d k):=by unfold QGu;infer_instance
theorem QQx{d:Option Dk}(hd:Zs d)(I:List Ino)(E:List Ent)(R:List Bool)(k:Int)(hk:0<=k/\k<24):FnC Tryz.prog 187 [.d (.fp 209 (Qk d I E R)),.d (.it .i64 k)] (.d (.bl (decide (QGu d k)))):=by
 have hr:=QCw d hd (17+k);have hs:=X6 hd (17+k);have he:=QGh (rdS d (17+k)) hs;unfold QFS at he;have h0:(Qk d I E R).drop 0=Qk d I E R:=rfl;have hld:∀ {ty:Ty},ty.kd.agg=false->ldD ty (Qk d I E R)= .d (QQ d):=fun{ty} ha=>by unfold ldD;rw[ha];rfl
 by_cases hh:QFT d (17+k)
 ·rw [show rdE d (17+k)=0 from if_pos hh]at hr;refine QK QSN ?_;(repeat' (conv=>whnf);first|refine cEk hr ?_|refine cEk he ?_|refine AtD.eq h0 ?_|refine AtA.eq (hld rfl) ?_|refine AtA.eq (ZN rfl rfl hs) ?_|refine XU.mk ((QJ (rdS d (17+k))).map AV.d) (JF _) ?_|refine QC ?_|intro x hx hu|intro h|apply sS);refine QJk ?_;unfold QGu;simp[hh]
 ·rw [show rdE d (17+k)=1 from if_neg hh]at hr;refine QK QSN ?_;(repeat' (conv=>whnf);first|refine cEk hr ?_|refine cEk he ?_|refine AtD.eq h0 ?_|refine AtA.eq (hld rfl) ?_|refine AtA.eq (ZN rfl rfl hs) ?_|refine XU.mk ((QJ (rdS d (17+k))).map AV.d) (JF _) ?_|refine QC ?_|intro x hx hu|intro h|apply sS);exact YX (λq=>hh q.1)
def YS(ino:Nat->Ino)(tk:Nat->Bool)(b:Int)(k:Nat):Nat:=((List.range k).filter λi=>decide ((ino i).k=1/\b∈Zt (ino i))&&tk i).length
theorem QMl{ino:Nat->Ino}{tk:Nat->Bool}{b:Int}(h1:(ino k).k=1/\b∈Zt (ino k))(h2:tk k=true):YS ino tk b (k+1)=YS ino tk b k+1:=by
 unfold YS;rw[x3,x6,zu];simp[h1,h2]
theorem QOo{ino:Nat->Ino}{tk:Nat->Bool}{b:Int}(h:¬(((ino k).k=1/\b∈Zt (ino k))/\tk k=true)):YS ino tk b (k+1)=YS ino tk b k:=by
 unfold YS;rw[x3,x6,zu];have:(decide ((ino k).k=1/\b∈Zt (ino k))&&tk k)=false:=by
  rw[Wz];by_cases h1:(ino k).k=1/\b∈Zt (ino k)
  ·right;cases h2:tk k with
   |true=>exact(h ⟨h1,h2⟩).elim
   |false=>rfl
  ·left;exact decide_eq_false h1
 have e:[k].filter (λi=>decide ((ino i).k=1/\b∈Zt (ino i))&&tk i)=[]:=by simp only[List.filter,this]
 rw[e];rfl
theorem QFZ(ino:Nat->Ino)(tk:Nat->Bool)(b:Int)(k:Nat):YS ino tk b k<=k:=by
 unfold YS;exact y9 (wq _ _) (by rw[yy];exact zr _)
theorem QOp(h:XOK I E R)(ha:ty.kd.agg=true)(hz:ty.size=96):ldD ty (I.flatMap ZM++E.flatMap Qt++R.flatMap λb=>[D.bl b])= .dg 96 (I.flatMap ZM):=by
 unfold ldD;rw[ha,cond_true,hz,y7,un (by rw[Zd Zi,h.i])]
theorem QQy{n:Int}(hx:I[n.toNat]? =some x)(ha:ty.kd.agg=true)(hz:ty.size=6):ldD ty ((I.flatMap ZM).drop (n.toNat*6))= .dg 6 (ZM x):=by
 unfold ldD;rw[ha,cond_true,hz];have:=QDQ Zi [] [] I n.toNat x hx;have e:((I.flatMap ZM).drop (n.toNat*6)).take 6=ZM x:=by simpa using this
 rw[e]
theorem QMm{d:Option Dk}(hd:Zs d)(h:XOK I E R)(b:Int):FnC Tryz.prog 153 [.d (.fp 209 (Qk d I E R)),.d (.it .i64 b)] (.d (.it .i64 (YS (λi=>I.getD i ZZ) (λi=>decide (Q1 (rdS d) (i:Nat))) b 16:Nat))):=by
 have h0:(Qk d I E R).drop 0=Qk d I E R:=rfl;have h1:(Qk d I E R).drop 1=I.flatMap ZM++E.flatMap Qt++R.flatMap λb=>[D.bl b]:=rfl;have hld:∀ {ty:Ty},ty.kd.agg=false->ldD ty (Qk d I E R)= .d (QQ d):=fun{ty} ha=>by unfold ldD;rw[ha];rfl
 have ht:=λn=>QMS d hd n;refine QK QTu ?_;(repeat' (conv=>whnf);first|refine AtD.eq h1 ?_|refine AtA.eq (QOp h rfl rfl) ?_|refine QC ?_|intro x hx hu|intro h|apply sS);conv=>whnf
 refine Qu QE (λx:Nat×Nat=>x.1<=16/\x.2=YS (λi=>I.getD i ZZ) (λi=>decide (Q1 (rdS d) (i:Nat))) b x.1) (λx=>⟨[(0,.d (.fp 209 (Qk d I E R))),(1,.d (.it .i64 b)),(5,.d (.it .i64 (x.2:Nat))),(11,.dg 96 (I.flatMap ZM)),(12,.d (.it .i64 (x.1:Nat)))],[],0⟩) (λx=>16-x.1) (0,0) ⟨yc _,rfl⟩ ⟨ai rfl rr,trivial,rfl⟩ ?_;intro⟨k,c⟩ hk0;have hkl:=hk0.1;have hc:=hk0.2;dsimp only at hkl hc;by_cases hk:k<16
 ·have hg:I[((k:Nat):Int).toNat]? =some (I[k]'(by rw[h.i];exact hk)):=zk _;have hgd:I.getD k ZZ=I[k]'(by rw[h.i];exact hk):=by rw[zo,zk];rfl
  generalize I[k]'(by rw[h.i];exact hk)=y at hg hgd;have htk:=ht (k:Nat);have hcl:=QFZ (λi=>I.getD i ZZ) (λi=>decide (Q1 (rdS d) (i:Nat))) b k;rw[<-hc]at hcl;have yes:y.k=1->b∈Zt y->Q1 (rdS d) (k:Nat)->c+1=YS (λi=>I.getD i ZZ) (λi=>decide (Q1 (rdS d) (i:Nat))) b (k+1):=λq1 q2 q3=>by
   rw[QMl (ino:=λi=>I.getD i ZZ) (tk:=λi=>decide (Q1 (rdS d) (i:Nat))) (by rw[hgd];exact⟨q1,q2⟩) (decide_eq_true q3),hc]
  have no:¬(y.k=1/\b∈Zt y/\Q1 (rdS d) (k:Nat))->c=YS (λi=>I.getD i ZZ) (λi=>decide (Q1 (rdS d) (i:Nat))) b (k+1):=λq=>by
   rw[QOo (ino:=λi=>I.getD i ZZ) (tk:=λi=>decide (Q1 (rdS d) (i:Nat))) (λr=>q (by have:=r.1;rw[hgd]at this;exact⟨this.1,this.2,of_decide_eq_true r.2⟩)),hc]
  by_cases hT:Q1 (rdS d) (k:Nat);all_goals first|rw[decide_eq_true hT]at htk|rw[decide_eq_false hT]at htk
  all_goals (repeat' (conv=>whnf);first|refine cEk htk ?_|refine cI QT7 ?_|refine cI QUN ?_|with_reducible refine Q0.unroll QE 5 ?_|refine AtD.eq h0 ?_|refine AtA.eq (QQy hg rfl rfl) ?_|refine AtA.eq (hld rfl) ?_|refine gOI ?_|intro x hx hu|intro h|apply sS)
  all_goals first
   |(refine again (k+1,c+1) ⟨hk,yes (by assumption) (by simp only[Zt,zj,yz,or_false];omega) hT⟩ (by dsimp only;omega) (ai rfl (ai rfl (ai (QM (by dsimp only;omega)) (ai rfl (ai (QM (by dsimp only;omega)) trivial))))) trivial rfl;done)
   |(refine again (k+1,c) ⟨hk,no (λq=>by have q2:=q.2.1;simp only[Zt,zj,yz,or_false]at q2;first|exact hT q.2.2|(have:=q.1;omega))⟩ (by dsimp only;omega) (ai rfl (ai rfl (ai rfl (ai rfl (ai (QM (by dsimp only;omega)) trivial))))) trivial rfl;done)
 ·have h16:k=16:=by omega
  rw[h16]at hc;(repeat' (conv=>whnf);first|refine QC ?_|intro x hx hu|intro h|apply sS);show AV.d (.it .i64 (c:Nat))=_;rw[hc]
theorem J1(f:Int->List UInt8)(n:Int):RI (QF f n):=by
 unfold QF;split
 ·unfold Y5;split
  ·rename_i h;exact h.1
  ·exact .inl ⟨.inl rfl,rfl,rfl,rfl,rfl,rfl⟩
 ·exact .inl ⟨.inl rfl,rfl,rfl,rfl,rfl,rfl⟩
def QLI(od:Nat->Bool)(I:List Ino)(E:List Ent)(R:List Bool)(kind k:Nat):Bool:=
 match kind with
 |1=>od k
 |2=>(E.getD k ZG).u&&decide ((I.getD (E.getD k ZG).t.toNat ZZ).k=0)
 |3=>(E.getD k ZG).u&& !decide (QCm I R (E.getD k ZG))
 |4=>(E.getD k ZG).u&&(E.take k).any λo=>o.u&&(decide (o.p=(E.getD k ZG).p)&&decide (o.n=(E.getD k ZG).n))
 |5=>(E.getD k ZG).u&&(E.take k).any λo=>o.u&&decide (o.t=(E.getD k ZG).t)
 |_=>false
theorem QQz(h:E.length=24):(E.map Qt).length=24/\(∀x∈E.map Qt,x.length=4)/\(E.map Qt).flatten=((E.flatMap Qt)++R.flatMap λb=>[D.bl b]).take (24*4):=by
 refine⟨by rw[ze,h],λx hx=>?_,?_⟩
 ·obtain ⟨e,_,rfl⟩:=ye.1 hx;rfl
 ·rw [un (by rw[Zd Xb,h]),List.flatMap_def]
theorem QGv{α:Type}{q:α->Bool}{L:List α}{x:α}(h:L[j]? =some x)(ha:(L.take j).any q=false)(hx:q x=false):(L.take (j+1)).any q=false:=by
 rw[qy,h,jj,ha];simpa using hx
theorem QJv{α:Type}{q:α->Bool}{L:List α}{x:α}(h:L[j]? =some x)(hj:j<k)(hx:q x=true):(L.take k).any q=true:=by
 rw[vz];refine⟨x,?_,hx⟩;have:=(yb.1 h);rw[jl];exact⟨j,by have:=this.1;omega,this.2⟩
theorem QQC{α:Type}{q:α->Bool}{L:List α}(h:(L.take k).any q=true):true=(true&&L.any q):=by
 rw[vz]at h;obtain⟨x,hx,hq⟩:=h;rw[xl,eq_comm,vz];exact⟨x,xd hx,hq⟩
theorem QQD{α:Type}{q:α->Bool}{L:List α}(h:L.any q=false):false=(true&&L.any q):=by rw[h];rfl
def lwS(L:List Ent)(f a b:Nat)(k j:Nat):List (Nat×AV):=[(0,.d (.fs 4 (L.map Qt))),(1,.fn (.func f) [] [.ptr a 0,.ptr b 0]),(7,.d (.it .i64 (k:Nat))),(8,.d (.it .i64 (j:Nat)))]
theorem QJw{d:Option Dk}(hd:Zs d)(h:XOK I E R)(kind k:Nat)(hk:k<24)(h1:1<=kind/\kind<=5):FnC Tryz.prog 152 [.d (.fp 209 (Qk d I E R)),.d (.it .i64 (kind:Nat)),.d (.it .i64 (k:Nat))] (.d (.bl (QLI (λk=>decide (QGu d (k:Nat))) I E R kind k))):=by
 have h97:=QQA (d:=d) h;have h1d:=QUc (d:=d) (I:=I) (E:=E) (R:=R);obtain⟨e,he⟩:=Q8 (l:=E) (k:=k) (by rw[h.e];omega);have hmem:e∈E:=yw he;have hgd:E.getD k ZG=e:=by rw[zo,he];rfl
 have hE:=QUe (E:=E) (R:=R) (n:=(k:Nat)) he;have hod:=QQx hd I E R (k:Nat) om;have hsn:=QGs (d:=d) h hmem;have hxe:Qt e=[.bl e.u,.it .i64 e.p,.st e.n,.it .i64 e.t]:=rfl;have hp:=h.p e hmem;have hrows:=QQz (R:=R) h.e;unfold QLI;rw[hgd];have hk5:kind=1\/kind=2\/kind=3\/kind=4\/kind=5:=by omega
 cases hu:e.u with
 |false=>
  rw[hu]at hxe;rw[hxe]at hE hsn;refine QK QK1 ?_;rcases hk5 with rfl|rfl|rfl|rfl|rfl;all_goals (repeat' (conv=>whnf);first|refine cEk hod ?_|(refine CallE.inl ?_)|refine cI QQd ?_|refine AtD.eq h97 ?_|refine AtD.eq hE ?_|refine QC ?_|intro x hx hu|intro h|apply sS)
  all_goals rfl
 |true=>
  obtain⟨p1,p2,t1,t2⟩:=hp hu;rw[hu]at hxe;rw[hxe]at hE hsn;obtain⟨y,hy⟩:=Q8 (l:=I) (k:=e.t.toNat) (by rw[h.i];omega);have hI:=QSl (E:=E) (R:=R) hy;have hyg:I.getD e.t.toNat ZZ=y:=by rw[zo,hy];rfl
  rcases hk5 with rfl|rfl|rfl|rfl|rfl
  ·refine QK QK1 ?_;(repeat' (conv=>whnf);first|refine cEk hod ?_|refine AtD.eq h97 ?_|refine AtD.eq hE ?_|refine QC ?_|intro x hx hu|intro h|apply sS);rfl
  ·rw [hyg];refine QK QK1 ?_;(repeat' (conv=>whnf);first|refine AtD.eq h97 ?_|refine AtD.eq hE ?_|refine AtD.eq h1d ?_|refine AtD.eq hI ?_|refine QC ?_|intro x hx hu|intro h|apply sS);refine Xo ?_;show(y.k==0)=(true&&decide (y.k=0));rw[xl];exact(by by_cases h0:y.k=0<;>simp[h0])
  ·by_cases hs:QCm I R e;all_goals first|rw[decide_eq_true hs]at hsn|rw[decide_eq_false hs]at hsn
   all_goals refine QK QK1 ?_
   all_goals (repeat' (conv=>whnf);first|refine cEk hsn ?_|refine AtD.eq h97 ?_|refine AtD.eq hE ?_|refine QC ?_|intro x hx hu|intro h|apply sS)
   ·rw [decide_eq_true hs];rfl
   ·rw [decide_eq_false hs];rfl
  ·have hlt:(E.take k).length=k:=by rw[z7,h.e];omega
   have hlen:((E.take k).map Qt).length=k:=by rw[ze,hlt]
   refine QK QK1 ?_;(repeat' (conv=>whnf);first|(refine CallE.inl ?_)|refine cI QQd ?_|refine cI QSU ?_|refine cI QSW ?_|refine AtD.eq h97 ?_|refine AtD.eq hE ?_|refine SlF.mk ⟨E.map Qt,hrows,?_⟩|refine Yq.mk ((E.take k).map Qt) (vk) ?_|refine QC ?_|intro x hx hu|intro h|apply sS);refine JS QE (λj:Nat=>j<=k/\((E.take k).take j).any (λo=>o.u&&(decide (o.p=e.p)&&decide (o.n=e.n)))=false) (lwS (E.take k) 229 3 4 k) (λj=>k-j) 0 ⟨yc _,rfl⟩ ⟨rfl,rfl,QM (by rw[hlen]),rfl,trivial⟩ rfl ?_;intro j ⟨hj,ha⟩;by_cases hjk:j<k
   ·(repeat' (conv=>whnf);first|refine cI QSV ?_|refine cI QT5 ?_|refine QC ?_|intro x hx hu|intro h|apply sS);all_goals (have hx':=hx;first
     |(refine QAa (j+1) ⟨hjk,QGv hx ha (by first|(simp[(by assumption:x.u=false)];done)|(simp[(by assumption:¬x.p=e.p)];done)|(simp[(by assumption:¬x.n=e.n)];done))⟩ (by dsimp only;omega) (ai rfl (ai rfl (ai rfl (ai (QM om) trivial)))) (by (repeat (first|exact trivial|refine ai rfl ?_))) rfl;done)
     |(refine Xo (QQC (QJv hx hjk (by simp[(by assumption:x.u=true),(by assumption:x.p=e.p),(by assumption:x.n=e.n)])));done))
   ·have hjk2:j=k:=by omega
    rw[hjk2,yd (by rw[z7];omega)]at ha;(repeat' (conv=>whnf);first|refine QC ?_|intro x hx hu|intro h|apply sS);exact Xo (QQD ha)
  ·have hlt:(E.take k).length=k:=by rw[z7,h.e];omega
   have hlen:((E.take k).map Qt).length=k:=by rw[ze,hlt]
   refine QK QK1 ?_;(repeat' (conv=>whnf);first|(refine CallE.inl ?_)|refine cI QQd ?_|refine cI QSU ?_|refine cI QSW ?_|refine AtD.eq h97 ?_|refine AtD.eq hE ?_|refine SlF.mk ⟨E.map Qt,hrows,?_⟩|refine Yq.mk ((E.take k).map Qt) (vk) ?_|refine QC ?_|intro x hx hu|intro h|apply sS);refine JS QE (λj:Nat=>j<=k/\((E.take k).take j).any (λo=>o.u&&decide (o.t=e.t))=false) (lwS (E.take k) 229 3 4 k) (λj=>k-j) 0 ⟨yc _,rfl⟩ ⟨rfl,rfl,QM (by rw[hlen]),rfl,trivial⟩ rfl ?_;intro j ⟨hj,ha⟩;by_cases hjk:j<k
   ·(repeat' (conv=>whnf);first|refine cI QSV ?_|refine cI QT6 ?_|refine QC ?_|intro x hx hu|intro h|apply sS);all_goals (have hx':=hx;first
     |(refine QAa (j+1) ⟨hjk,QGv hx ha (by first|(simp[(by assumption:x.u=false)];done)|(simp[(by assumption:¬x.t=e.t)];done))⟩ (by dsimp only;omega) (ai rfl (ai rfl (ai rfl (ai (QM om) trivial)))) (by (repeat (first|exact trivial|refine ai rfl ?_))) rfl;done)
     |(refine Xo (QQC (QJv hx hjk (by simp[(by assumption:x.u=true),(by assumption:x.t=e.t)])));done))
   ·have hjk2:j=k:=by omega
    rw[hjk2,yd (by rw[z7];omega)]at ha;(repeat' (conv=>whnf);first|refine QC ?_|intro x hx hu|intro h|apply sS);exact Xo (QQD ha)
theorem QSq(f:Int->List UInt8)(h:k<24):(xE f 24)[k]? =some (QA f (k:Nat)):=by
 have h1:k<(xE f 24).length:=by rw[QBw];omega
 rw[zk h1,QDS,if_pos h]
theorem QOq(f:Int->List UInt8)(h:k<24):(xE f 24).getD k ZG=QA f (k:Nat):=by rw[zo,QSq f h];rfl
section
variable {R:List Bool} {n:Nat} {b:Bool} {ty:Ty} {off i j:Nat}
theorem ldR(hb:R[n]? =some b)(ha:ty.kd.agg=false)(ho:off=0+n*1):ldA ty off ((R.map D.bl).map AV.d)= .d (.bl b):=by
 subst ho;unfold ldA;rw[ha,cond_false,zo,y8,y8,show 0+n*1=n by omega,hb];rfl
theorem QSr(h:R.length=16)(ha:ty.kd.agg=true)(hz:ty.size=16):ldA ty 0 ((R.map D.bl).map AV.d)= .dg 16 (R.map D.bl):=by
 unfold ldA;rw[ha,cond_true,hz,v7,yd (by simp[h])];unfold QDo;rw[XB]
theorem QSs(h:R.length=16){a:List AV}(hx:a=(R.map D.bl).map AV.d)(ha:ty.kd.agg=true)(hz:ty.size=16):ldA ty 0 a= .dg 16 (R.map D.bl):=by rw[hx];exact QSr h ha hz
theorem stR(hn:n<R.length)(hi:i=0+n*1)(hj:j=i+1):((R.map D.bl).map AV.d).take i++[AV.d (.bl b)]++((R.map D.bl).map AV.d).drop j=((R.set n b).map D.bl).map AV.d:=by
 subst hi hj;rw[show 0+n*1=n by omega,Vb,Vb,u5,if_pos (by simpa using hn)];simp
end
def nmR(R:List Bool)(k:Nat):List Nat:=(List.range k).filter λi=>R.getD i false
def vN(l:List Nat):List (List D):=l.map λi:Nat=>[.it .i64 (i:Nat)]
theorem QOr(h:R[k]? =some true):nmR R (k+1)=nmR R k++[k]:=by
 unfold nmR;rw[x3,x6];have:R.getD k false=true:=by rw[zo,h];rfl
 rw[List.filter_cons,if_pos this];rfl
theorem QQ0(h:R[k]? =some false):nmR R (k+1)=nmR R k:=by
 unfold nmR;rw[x3,x6];have:¬R.getD k false=true:=by rw[zo,h];simp
 rw[List.filter_cons,if_neg this];simp
theorem QOs(R:List Bool)(k:Nat):(nmR R k).length<=k:=by
 unfold nmR;exact y9 (wq _ _) (by rw[yy];exact zr _)
theorem QMn(l:List Nat):(vN l).length=l.length:=ze ..
theorem QJx(n:Nat)(l:List D):(l.map AV.d).map (AV.down1 n)=l.map AV.d:=by rw[qc];rfl
def QIf(x:Int×Int):List D:=[.it .i64 x.1,.it .i64 x.2]
def J2(od:Nat->Bool)(I:List Ino)(E:List Ent)(own:Nat->Nat):List (Int×Int):=Xq (QLI od I E (Q2 (kdI I) E)) 120++Ja own 24
def s1(a:Nat)(i:Nat):List (Nat×AV):=[(a,.d (.it .i64 ((i+1:Nat):Nat)))]
def s2(i k:Nat):List (Nat×AV):=[(5,.d (.it .i64 ((i+1:Nat):Nat))),(6,.d (.it .i64 (k:Nat)))]
theorem QGw(L:List (Int×Int))(x:Int×Int):(L++[x]).map QIf=L.map QIf++[QIf x]:=by rw[yh];rfl
theorem QSt{a b:List D}(h:a=b):AV.dg k a=AV.dg k b:=by rw[h]
theorem QOt(hb:R[k]? =some b)(ha:ty.kd.agg=false)(hj:j=k*1):ldD ty ((R.map D.bl).drop j)= .d (.bl b):=by
 subst hj;unfold ldD;rw[ha,cond_false,qm,zo,wo,x5,y8,hb];rfl
def rnS(d:Option Dk)(R:List Bool)(k:Nat):S:=⟨[(0,.d (QQ d)),(3,.ts 1 (vN (nmR R k)) 1),(10,.dg 16 (R.map D.bl)),(11,.d (.it .i64 (k:Nat)))],[(1,.tail 3 true)],2⟩
theorem QEG(d:Option Dk)(hd:Zs d):FnC Tryz.prog 97 [.d (QQ d)] (.d (.fs 1 (vN (nmR (Q2 (kdI (xI (rdS d) 16)) (xE (rdS d) 24)) 16)))):=by
 have hr:=QDU d hd;have hl:(Q2 (kdI (xI (rdS d) 16)) (xE (rdS d) 24)).length=16:=by unfold Q2;rw[Yf];rfl
 have hx:=QGt (rdS d) 16 24 hl;have h193:=QId (d:=d) hx;generalize Q2 (kdI (xI (rdS d) 16)) (xE (rdS d) 24)=R at*
 generalize xI (rdS d) 16=I at*
 generalize xE (rdS d) 24=E at*
 refine QK i97 ?_;(repeat' (conv=>whnf);first|refine cEk hr ?_|refine AtD.eq h193 ?_|refine QC ?_|intro x hx hu|intro h|apply sS);conv=>whnf
 refine Qu QE (λk:Nat=>k<=16) (rnS d R) (λk=>16-k) 0 (yc _) ⟨ai rfl (ai rfl (ai (QSt ?_) rr)),ai rfl trivial,rfl⟩ ?_
 ·show List.take 16 (R.flatMap λb=>[D.bl b])=R.map D.bl;rw[List.map_eq_flatMap,yd];rw[Zd (sz:=1) (λ_=>rfl),hl];exact zr _
 intro k hk;by_cases hk16:k<16
 ·obtain ⟨r,hb⟩:=Q8 (l:=R) (k:=k) om;have hn:=QOs R k;have hv:=QMn (nmR R k);cases r
  ·have hno:=QQ0 hb;(repeat' (conv=>whnf);first|refine AtA.eq (QOt hb rfl rfl) ?_|refine QC ?_|intro x hx hu|intro h|apply sS);refine again (k+1) hk16 (by first|omega|(dsimp only;omega)) (ai rfl (ai (QCe ?_) (ai rfl (ai (QM om) trivial)))) rr rfl;rw[hno]
  ·have hyes:=QOr hb;(repeat' (conv=>whnf);first|refine AtA.eq (QOt hb rfl rfl) ?_|refine QC ?_|intro x hx hu|intro h|apply sS);refine again (k+1) hk16 (by first|omega|(dsimp only;omega)) (ai rfl (ai (QCe ?_) (ai rfl (ai (QM om) trivial)))) rr rfl;rw[hyes];unfold vN;rw[yh];rfl
 ·have h16:k=16:=by omega
  (repeat' (conv=>whnf);first|refine QC ?_|intro x hx hu|intro h|apply sS);refine QOE ?_;rw[h16]
theorem QGx{l:List (List UInt8)}(x:List UInt8):x∈Lib.compact l↔x∈l:=by
 have hb:∀i (hi:i<l.length),(l.toArray)[i]! =l[i]:=λi hi=>by
  rw[getElem!_pos l.toArray i (by simpa using hi)];simp
 unfold Lib.compact Lib.compactUpTo;constructor
 ·intro h;obtain⟨i,hi,rfl⟩:=ye.1 h;have:=yj.1 (xj.1 hi).1;rw[hb i this];exact zt _
 ·intro h;have key:∀i (hi:i<l.length),l[i]∈((List.range l.length).filter (Lib.keeps l.toArray)).map (l.toArray[·]!):=by
   intro i;induction i with
   |zero=>
    intro hi;refine ye.2 ⟨0,xj.2 ⟨yj.2 hi,by simp[Lib.keeps]⟩,hb 0 hi⟩
   |succ i ih=>
    intro hi;by_cases e:l[i+1]=l[i]
    ·rw [e];exact ih om
    ·refine ye.2 ⟨i+1,xj.2 ⟨yj.2 hi,?_⟩,hb _ hi⟩;unfold Lib.keeps;refine decide_eq_true (.inr ?_);rw[hb _ hi,Nat.add_sub_cancel,hb i om];exact e
  obtain⟨i,hi,rfl⟩:=uh h;exact key i hi
theorem QMo(h:Zh s=true):s.all (λb=>b !=47)=true:=by
 simp only[Zh,zf,zb]at h;rw[zb];intro b hb;have:=h.2 b hb;simp only[ZL,decide_eq_true_eq]at this;rw[bne_iff_ne];intro e;subst e;revert this;decide
theorem QGy:∀(l:List (List UInt8)),(∀s∈l,Zh s=true)->pw (YA l)=l
 |[],_=>rfl
 |s::t,h=>by
  have e:YA (s::t)=47::(s++YA t):=by simp[YA]
  rw[e,pw,QDK ?_ (QMo (h s (zm ..))),QGy t λx hx=>h x (zi _ hx)];cases t with
  |nil=>exact .inl rfl
  |cons a b=>right;simp[YA]
theorem QGz{l:List (List UInt8)}(h:∀s∈l,Zh s=true)(h4:l.length<=4):QI (YC l)=(l,0):=by
 by_cases h0:l=[]
 ·subst h0;rfl
 ·have hp:=QGy l h;rw[YC,if_neg h0];have hh:(YA l)[0]? =some 47:=by
   cases l with
   |nil=>exact absurd rfl h0
   |cons a b=>simp[YA]
  have h1:¬YA l=[47]:=λe=>by
   rw[e]at hp;have e2:l=[[]]:=hp.symm;subst e2;have:=h [] (zm ..);revert this;decide
  rw[QIY h1 hh (by rw[hp];exact h4) (by rw[hp,zb];exact h),hp]
theorem QOu(f:Int->List UInt8)(n:Int)(s:List UInt8):s∈nms f n↔∃k,XI f n s=some k/\QAr f n s k:=by
 unfold nms;rw[QGx,JJ,List.mem_mergeSort,Z9];constructor
 ·intro h;obtain⟨k,hk,e⟩:=ye.1 h;obtain⟨hk,hs⟩:=xj.1 hk;have hs:=of_decide_eq_true hs;cases hf:XI f n s with
  |none=>
   unfold XI at hf;rw[jo]at hf;exact absurd (decide_eq_true (⟨hs,e⟩:QAr f n s k)) (hf k hk)
  |some j=>
   refine⟨j,rfl,?_⟩;unfold XI at hf;have:=qe hf;exact of_decide_eq_true this
 ·rintro ⟨k,hk,hp⟩;unfold XI at hk;exact ye.2 ⟨k,xj.2 ⟨wl hk,decide_eq_true hp.1⟩,hp.2⟩
def wrD(d:Dk)(w:Wr):Dk:=⟨d.nx+1,d.safe,d.wait++[{w with e:=d.ep}],d.log++[QGk {w with e:=d.ep}],d.ep⟩
theorem QQ1(d:Dk)(w:Wr)(n:Int)(h:0<=w.a/\w.a<d.safe.length):rdS (some (wrD d w)) n=if n=w.a then w.s else rdS (some d) n:=by
 unfold rdS wrD;dsimp only;rw[QCT];by_cases hn:n=w.a
 ·subst hn;rw[if_pos h,if_pos rfl];simp
 ·rw [if_neg hn];have:¬w.a=n:=λe=>hn e.symm;simp only[this,if_false]
def w0:Wr:=⟨0,Qz,0,0,0⟩
def QMp(m:List (List D×D))(n:Int):List (List D×D):=Jw m [.it .i64 n] (.it .i64 1)
def QCn(l:List Int):List (List D×D):=l.foldl QMp []
def gt0(m:List (List D×D))(n:Int):D:=match ZI m [.it .i64 n]with|some v=>v|none=> .it .i64 0
theorem QG0(a b:Int):XW [.it .i64 a] [.it .i64 b]=decide (a=b):=by
 show((a==b)&&true)=_;rw[wx];rfl
theorem QG1:∀(m:List (List D×D)) (hm:∀p∈m,∃a,p.1=[D.it .i64 a]) (x n:Int),gt0 (QMp m x) n=if n=x then .it .i64 1 else gt0 m n
 |[],_,x,n=>by
  unfold gt0 QMp;simp only[Jw,ZI,QG0];by_cases h:n=x
  ·rw [if_pos h,decide_eq_true h.symm];rfl
  ·rw [if_neg h,decide_eq_false (λe=>h e.symm)];rfl
 |(k,u)::t,hm,x,n=>by
  obtain⟨a,rfl⟩:=hm _ zm;have ih:=QG1 t (λp hp=>hm p (zi _ hp)) x n;unfold gt0 QMp at ih⊢;simp only[Jw,ZI,QG0];by_cases ha:a=x
  ·subst ha;rw[decide_eq_true rfl,cond_true];simp only[ZI,QG0];by_cases h:n=a
   ·rw [if_pos h,decide_eq_true h.symm];rfl
   ·rw [if_neg h,decide_eq_false (λe=>h e.symm)];rfl
  ·rw [decide_eq_false ha,cond_false];simp only[ZI,QG0];by_cases han:a=n
   ·rw [decide_eq_true han,cond_true,cond_true,if_neg (λe=>ha om)]
   ·rw [decide_eq_false han,cond_false,cond_false];exact ih
theorem QBy:∀(m:List (List D×D)) (hm:∀p∈m,∃a,p.1=[D.it .i64 a]) (x:Int) (v:D),∀p∈Jw m [.it .i64 x] v,∃a,p.1=[D.it .i64 a]
 |[],_,x,v,p,hp=>by
  rw[xg.1 hp];exact⟨x,rfl⟩
 |(k,u)::t,hm,x,v,p,hp=>by
  simp only[Jw]at hp;cases hq:XW k [.it .i64 x]with
  |true=>
   rw[hq,cond_true]at hp;rcases zj.1 hp with rfl|hp
   ·exact ⟨x,rfl⟩
   ·exact hm p (zi _ hp)
  |false=>
   rw[hq,cond_false]at hp;rcases zj.1 hp with rfl|hp
   ·exact hm _ zm
   ·exact QBy t (λp hp=>hm p (zi _ hp)) x v p hp
theorem QLJ(l:List Int)(x:Int):QCn (l++[x])=QMp (QCn l) x:=by unfold QCn;rw[vr];rfl
theorem QOv(l:List Int):(∀p∈QCn l,∃a,p.1=[D.it .i64 a])/\∀n,gt0 (QCn l) n= .it .i64 (if n∈l then 1 else 0):=by
 have key:∀k,k<=l.length->(∀p∈QCn (l.take k),∃a,p.1=[D.it .i64 a])/\∀n,gt0 (QCn (l.take k)) n= .it .i64 (if n∈l.take k then 1 else 0):=by
  intro k;induction k with
  |zero=>intro _;refine⟨λp hp=>?_,λn=>rfl⟩;cases hp
  |succ k ih=>
   intro hk;obtain⟨h1,h2⟩:=ih om;obtain⟨x,hx⟩:=Q8 (show k<l.length by omega);rw[ZF hx,QLJ];refine⟨λp hp=>QBy _ h1 x _ p hp,λn=>?_⟩;rw[QG1 _ h1,h2];by_cases h:n=x
   ·rw [if_pos h,if_pos (by simp[h])]
   ·rw [if_neg h];by_cases hn:n∈l.take k
    ·rw [if_pos hn,if_pos (w8 _ hn)]
    ·rw [if_neg hn,if_neg (λhm=>by
      rcases yi.1 hm with hm|hm
      ·exact hn hm
      ·exact h (xg.1 hm))]
 have:=key l.length (zr _)
 rwa [vn]at this
def bd(l:List Int)(n:Int):Int:=if n∈l then 1 else 0
theorem QAL(l:List Int)(n:Int):(match ZI (QCn l) [.it .i64 n]with|some v=>v|none=> .it .i64 0)=D.it .i64 (bd l n):=(QOv l).2 n
def tk(d:Dk):Dk:=⟨d.nx+1,d.safe,d.wait,d.log,d.ep⟩
inductive Stp where
 |wr(w:Wr)
 |bar
def evB:List D:=[.it .i64 3]++Q6 w0++[.fs 2 []]
def QG2(d:Dk):Dk:=⟨d.nx+1,d.safe,d.wait,d.log++[evB],d.ep+1⟩
def YT(bad:List Int):Dk->List Stp->Dk×Int
 |d,[]=>(d,0)
 |d,.wr w::t=>if d.nx∈bad then(tk d,3)else YT bad (wrD d w) t
 |d,.bar::t=>if d.nx∈bad then(tk d,3)else YT bad (QG2 d) t
def JK(b:Bool)(bad:List Int)(d:Dk):List (Nat×Ob):=[(0,.cells 6 [.mp 3,.d (.it .i64 d.nx),.vx 32 4 0 d.safe.length,.ts 36 (d.wait.map Q6) 1,.ts 38 d.log 2,.d (.it .i64 d.ep)]),(1,.tail 49 true),(2,.tail 110 true),(3,.mp b false [.it .i64 0] (QCn bad)),(4,.vec 37 32 (d.safe.map QJ) false)]
theorem QG3{r u l:Nat}{a b c e:List (List D)}{x y p':Int}(h3:x=y)(h1:a=b)(h2:c=e)(h4:p=p'):Ob.cells 6 [.mp u,.d (.it .i64 x),.vx 32 n 0 l,.ts 36 a q,.ts 38 c r,.d (.it .i64 p)]=Ob.cells 6 [.mp u,.d (.it .i64 y),.vx 32 n 0 l,.ts 36 b q,.ts 38 e r,.d (.it .i64 p')]:=by rw[h1,h2,h3,h4]
structure DB(d:Dk)(N:Nat):Prop where
 nx:0<=d.nx/\d.nx<=N
 w:d.wait.length<=N
 l:d.log.length<=N
 s:d.safe.length<=65
 s0:d.safe.length≠0
theorem QQ2(b:Bool)(bad:List Int)(d:Dk)(a:Int)(s:List UInt8)(hs:s.length=32)(k i:Int)(hb:DB d 1000000)(ha:0<=a/\a<d.safe.length):
  FnH Tryz.prog 148 [.ptr 0 0,.d (.it .i64 a),.dg 32 (QJ s),.dg 2 [.it .i64 k,.it .i64 i]] (JK b bad d) 5 [0] (.d (.it .i64 (if d.nx∈bad then 3 else 0))) (JK b bad (if d.nx∈bad then tk d else wrD d ⟨a,s,k,i,0⟩)) 5:=by
 obtain⟨hn,hw,hlg,hsl,hs0⟩:=hb;obtain⟨g,rfl⟩:=JZ hs;have hl1:(d.safe.map QJ).length=d.safe.length:=ze ..;have hl2:(d.wait.map Q6).length=d.wait.length:=ze ..;by_cases hbad:d.nx∈bad;all_goals first|rw[if_pos hbad,if_pos hbad]|rw[if_neg hbad,if_neg hbad]
 ·have hb1:bd bad d.nx=1:=if_pos hbad;refine QV QOV λT=>?_;(repeat' (conv=>whnf);first|with_reducible refine AtA.mk' ?_|refine OpX.lookup (kx:= .it .i64 d.nx) rfl rfl Tryz.underlying89 Tryz.underlying3 rfl (λw=>Tryz.zeroValue3 w) (λF=> .it _ _) rfl rfl rfl rfl (QAL bad d.nx) ?_|refine cI i57 ?_|refine cI i51 ?_|refine cI QIS ?_|refine cI QK0 ?_|refine gD ?_|refine gOI ?_|intro x hx hu|intro h|apply sS);all_goals try omega
  refine JT rfl (ai (QG3 rfl rfl rfl rfl) rr) rr
 ·have hb1:bd bad d.nx=0:=if_neg hbad;refine QV QOV λT=>?_;(repeat' (conv=>whnf);first|with_reducible refine AtA.mk' ?_|refine OpX.lookup (kx:= .it .i64 d.nx) rfl rfl Tryz.underlying89 Tryz.underlying3 rfl (λw=>Tryz.zeroValue3 w) (λF=> .it _ _) rfl rfl rfl rfl (QAL bad d.nx) ?_|refine cI i57 ?_|refine cI i51 ?_|refine cI QIS ?_|refine cI QK0 ?_|refine gD ?_|refine gOI ?_|intro x hx hu|intro h|apply sS);all_goals try omega
  refine JT rfl (ai (QG3 rfl ?_ rfl rfl) rr) rr;show _=(d.wait++[_]).map Q6;rw[yh];rfl
theorem QJy(b:Bool)(bad:List Int)(d:Dk)(hb:DB d 1000000)(he:d.ep<=1000000/\ -1000000<=d.ep):
  FnH Tryz.prog 62 [.ptr 0 0] (JK b bad d) 5 [0] (.d (.it .i64 (if d.nx∈bad then 3 else 0))) (JK b bad (if d.nx∈bad then tk d else QG2 d)) 5:=by
 obtain⟨hn,hw,hlg,hsl,hs0⟩:=hb;have hl1:(d.safe.map QJ).length=d.safe.length:=ze ..;by_cases hbad:d.nx∈bad;all_goals first|rw[if_pos hbad,if_pos hbad]|rw[if_neg hbad,if_neg hbad]
 ·have hb1:bd bad d.nx=1:=if_pos hbad;refine QV i62 λT=>?_;(repeat' (conv=>whnf);first|with_reducible refine AtA.mk' ?_|refine OpX.lookup (kx:= .it .i64 d.nx) rfl rfl Tryz.underlying89 Tryz.underlying3 rfl (λw=>Tryz.zeroValue3 w) (λF=> .it _ _) rfl rfl rfl rfl (QAL bad d.nx) ?_|refine cI i57 ?_|refine cI QIS ?_|refine cI QK0 ?_|refine gD ?_|refine gOI ?_|intro x hx hu|intro h|apply sS);all_goals try omega
  refine JT rfl (ai (QG3 rfl rfl rfl rfl) rr) rr
 ·have hb1:bd bad d.nx=0:=if_neg hbad;refine QV i62 λT=>?_;(repeat' (conv=>whnf);first|with_reducible refine AtA.mk' ?_|refine OpX.lookup (kx:= .it .i64 d.nx) rfl rfl Tryz.underlying89 Tryz.underlying3 rfl (λw=>Tryz.zeroValue3 w) (λF=> .it _ _) rfl rfl rfl rfl (QAL bad d.nx) ?_|refine cI i57 ?_|refine cI QIS ?_|refine cI QK0 ?_|refine gD ?_|refine gOI ?_|intro x hx hu|intro h|apply sS);all_goals try omega
  refine JT rfl (ai (QG3 rfl rfl rfl rfl) rr) rr
def ZP(x:Ino):Nat->Int
 |0=>x.b0
 |1=>x.b1
 |2=>x.b2
 |_=>x.b3
def Y6:Stp->List D
 | .wr w=>Q6 w++[.bl false]
 | .bar=>Q6 w0++[.bl true]
def QEH(l:List Stp):List (Nat×Ob):=[(0,.cells 1 [.ts 37 (l.map Y6) 1]),(1,.tail 243 true)]
theorem QQE{a b:List (List D)}(h:a=b):Ob.cells 1 [.ts n a q]=Ob.cells 1 [.ts n b q]:=by rw[h]
def Z3(x:Ino):List UInt8:=if RI x then QBs x else Qz
def ZR(x:Ent):List UInt8:=if RE x then Y0 x else Qz
theorem QQ3(h:RI x):QMO (JY x)=QJ (QBs x):=QIX λn hn=>by
 unfold JY at hn;simp only[zj,yz,or_false]at hn;rcases h with h|h
 ·omega
 ·omega
theorem QQ4(x:Ino):QLA x= .tup [.dg 32 (QJ (Z3 x)),.d (.bl (decide (RI x)))]:=by
 unfold QLA Z3;by_cases h:RI x
 ·rw [if_pos h,if_pos h,decide_eq_true h,QQ3 h]
 ·rw [if_neg h,if_neg h,decide_eq_false h]
theorem QQ5(x:Ent):QK8 x= .tup [.dg 32 (QJ (ZR x)),.d (.bl (decide (RE x)))]:=by
 unfold QK8 ZR;by_cases h:RE x
 ·rw [if_pos h,if_pos h,decide_eq_true h]
 ·rw [if_neg h,if_neg h,decide_eq_false h]
theorem QBF(x:Ino):(Z3 x).length=32:=by
 unfold Z3;split
 ·rfl
 ·rfl
theorem QBG(x:Ent):(ZR x).length=32:=by
 unfold ZR;split
 ·rename_i h;unfold Y0;split
  ·rename_i hu;have hn:Zh x.n=true:=by
    rcases h with h|h
    ·rw [h.1]at hu;cases hu
    ·exact h.2.2.2.2.2
   have:x.n.length<=8:=by
    unfold Zh at hn;simp at hn;omega
   simp;omega
  ·rfl
 ·rfl
theorem QFa(l:List Stp)(hl:l.length<=100000)(a:Int)(s:List UInt8)(hs:s.length=32)(k i:Int):
  FnH Tryz.prog 177 [.ptr 0 0,.d (.it .i64 a),.dg 32 (QJ s),.dg 2 [.it .i64 k,.it .i64 i]] (QEH l) 2 [0] (.tup []) (QEH (l++[.wr ⟨a,s,k,i,0⟩])) 2:=by
 obtain⟨g,rfl⟩:=JZ hs;have hl1:(l.map Y6).length=l.length:=ze ..;refine QV QT2 λT=>?_;(repeat' (conv=>whnf);first|with_reducible refine AtA.mk' ?_|refine gD ?_|refine gOI ?_|intro x hx hu|intro h|apply sS);conv=>whnf
 refine⟨_,⟨λκ g a w hst=>⟨g,hst⟩⟩,rfl,ai (QQE ?_) rr,ai rfl rr⟩;show _=(l++[_]).map Y6;rw[yh];rfl
theorem QJz(l:List Stp)(hl:l.length<=100000):
  FnH Tryz.prog 184 [.ptr 0 0] (QEH l) 2 [0] (.tup []) (QEH (l++[.bar])) 2:=by
 have hl1:(l.map Y6).length=l.length:=ze ..;refine QV QT3 λT=>?_;(repeat' (conv=>whnf);first|with_reducible refine AtA.mk' ?_|refine gD ?_|refine gOI ?_|intro x hx hu|intro h|apply sS);conv=>whnf
 refine⟨_,⟨λκ g a w hst=>⟨g,hst⟩⟩,rfl,ai (QQE ?_) rr,ai rfl rr⟩;show _=(l++[_]).map Y6;rw[yh];rfl
theorem QFb(l:List Stp)(hl:l.length<=100000)(n:Int)(hn: -1000<=n/\n<=1000)(x:Ino)(k i:Int):
  FnH Tryz.prog 142 [.ptr 0 0,.d (.it .i64 n),.dg 6 (ZM x),.dg 2 [.it .i64 k,.it .i64 i]] (QEH l) 2 [0] (.tup []) (QEH (l++[.wr ⟨1+n,Z3 x,k,i,0⟩])) 2:=by
 have h1:=QMQ x;rw[QQ4]at h1;have h2:=QFa l hl (1+n) (Z3 x) (QBF x) k i;obtain⟨g,hg⟩:=JZ (QBF x);rw[hg]at h1 h2⊢;refine QV QTr λT=>?_;(repeat' (conv=>whnf);first|refine cEk h1 ?_|refine CallI.h h2 [0,1] ?_|refine gOI ?_|intro x hx hu|intro h|apply sS);conv=>whnf
 exact⟨_,⟨λκ g a w hst=>⟨g,hst⟩⟩,rfl,ai rfl rr,ai rfl rr⟩
theorem QAM(l:List Stp)(hl:l.length<=100000)(n:Int)(hn: -1000<=n/\n<=1000)(x:Ent)(i:Int):
  FnH Tryz.prog 129 [.ptr 0 0,.d (.it .i64 n),.dg 4 (Qt x),.d (.it .i64 i)] (QEH l) 2 [0] (.tup []) (QEH (l++[.wr ⟨17+n,ZR x,3,i,0⟩])) 2:=by
 have h1:=QMK x;rw[QQ5]at h1;have h2:=QFa l hl (17+n) (ZR x) (QBG x) 3 i;obtain⟨g,hg⟩:=JZ (QBG x);rw[hg]at h1 h2⊢;refine QV QTp λT=>?_;(repeat' (conv=>whnf);first|refine cEk h1 ?_|refine CallI.h h2 [0,1] ?_|refine gOI ?_|intro x hx hu|intro h|apply sS);conv=>whnf
 exact⟨_,⟨λκ g a w hst=>⟨g,hst⟩⟩,rfl,ai rfl rr,ai rfl rr⟩
theorem QOw(l:List Stp)(hl:l.length<=100000)(n:Int)(hn: -1000<=n/\n<=1000)(s:List UInt8)(hs:s.length=32)(i:Int):
  FnH Tryz.prog 160 [.ptr 0 0,.d (.it .i64 n),.dg 32 (QJ s),.d (.it .i64 i)] (QEH l) 2 [0] (.tup []) (QEH (l++[.wr ⟨40+n,s,1,i,0⟩])) 2:=by
 have h2:=QFa l hl (41+n-1) s hs 1 i;rw[show(⟨41+n-1,s,1,i,0⟩:Wr)=⟨40+n,s,1,i,0⟩ by rw[show(41:Int)+n-1=40+n by omega]]at h2;obtain⟨g,rfl⟩:=JZ hs;refine QV QTw λT=>?_;(repeat' (conv=>whnf);first|refine CallI.h h2 [0,1] ?_|refine gOI ?_|intro x hx hu|intro h|apply sS);conv=>whnf
 exact⟨_,⟨λκ g a w hst=>⟨g,hst⟩⟩,rfl,ai rfl rr,ai rfl rr⟩
def Z4(p:List UInt8):List UInt8×List UInt8×Int:=
 if(QI p).2≠0 then([],[],(QI p).2)else if(QI p).1=[]then([],[],1)else(YC (QI p).1.dropLast,(QI p).1.getLastD [],0)
theorem QMq(p:List UInt8):QOi p=QEF (Z4 p).1 (Z4 p).2.1 (Z4 p).2.2:=by
 unfold QOi Z4;split
 ·rfl
 ·split<;>rfl
structure Plc where
 fo:Int
 nm:List UInt8
 k:Int
def QLK:Option Nat->Int
 |none=> -1
 |some k=>(k:Nat)
def QOx(f:Int->List UInt8)(q:List UInt8×List UInt8×Int)(r:Int×Int):Plc×Int:=
 if q.2.2≠0 then(⟨0,[],0⟩,q.2.2)else if r.2≠0 then(⟨0,[],0⟩,r.2)else if(QF f r.1).k≠2 then(⟨0,[],0⟩,6)else(⟨r.1,q.2.1,QLK (XI f r.1 q.2.1)⟩,0)
def ZH(f:Int->List UInt8)(p:List UInt8):Plc×Int:=QOx f (Z4 p) (ZA f (Z4 p).1)
def Xc(f:Int->List UInt8)(p:List UInt8):Int×Ino×Int:=
 if(ZA f p).2≠0 then(0,ZZ,(ZA f p).2)else if(QF f (ZA f p).1).k≠1 then(0,ZZ,6)else((ZA f p).1,QF f (ZA f p).1,0)
def frI(f:Int->List UInt8):Option Nat:=(List.range 16).find? λn:Nat=>decide (¬Q1 f (n:Nat))
def frE(f:Int->List UInt8):Option Nat:=(List.range 24).find? λk:Nat=>decide ((QA f (k:Nat)).u=false)
def QBH(f:Int->List UInt8)(b:Int):Bool:=(List.range 16).any λn:Nat=>decide (Q1 f (n:Nat))&&decide (b∈Zt (QF f (n:Nat)))
def frA(f:Int->List UInt8):List Int:=((List.range 24).filter λi:Nat=> !(QBH f ((i+1:Nat):Int))).map λi:Nat=>((i+1:Nat):Int)
def frB(f:Int->List UInt8)(n:Nat):List Int:=(frA f).take n
abbrev Pln:=Int×List Stp
def mkQ(f:Int->List UInt8)(a:Plc×Int)(kind:Int):Pln:=
 if a.2≠0 then(a.2,[])else if 0<=a.1.k then(5,[])else
 match frI f,frE f with
 |some n,some k=>(0,[.wr ⟨1+(n:Nat),Z3 ⟨kind,0,0,0,0,0⟩,2,(n:Nat),0⟩,.wr ⟨17+(k:Nat),ZR ⟨true,a.1.fo,a.1.nm,(n:Nat)⟩,3,a.1.fo,0⟩])
 |_,_=>(2,[])
def mkP(f:Int->List UInt8)(p:List UInt8)(kind:Int):Pln:=mkQ f (ZH f p) kind
def nd(z:Int):Nat:=((z+31)/32).toNat
def QDV(x:Ino)(had:Nat)(fr:List Int)(i:Nat):Int:=if had<=i then fr.getD (i-had) (ZP x i)else ZP x i
def Xk(x:Ino)(z:Int)(had:Nat)(fr:List Int):Ino:=⟨x.k,z,QDV x had fr 0,QDV x had fr 1,QDV x had fr 2,QDV x had fr 3⟩
def QIg(base:List UInt8)(i:Nat)(off:Int)(b:List UInt8):List UInt8:=
 (List.range 32).map λj:Nat=>if off<=32*(i:Int)+(j:Int)/\32*(i:Int)+(j:Int)<off+(b.length:Int)then b.getD (32*(i:Int)+(j:Int)-off).toNat 0 else base.getD j 0
def QEI(off:Int)(len:Nat)(i:Nat):Bool:=decide (off<32*(i:Int)+32/\32*(i:Int)<off+(len:Int)/\0<len)
def QOy(f:Int->List UInt8)(n:Int)(x y:Ino)(had:Nat)(off:Int)(b:List UInt8)(i:Nat):Stp:= .wr ⟨40+ZP y i,QIg (if i<had then f (40+ZP x i)else Qz) i off b,1,n,0⟩
def XJ(f:Int->List UInt8)(n:Int)(x y:Ino)(had:Nat)(off:Int)(b:List UInt8)(k:Nat):List Stp:=((List.range k).filter (QEI off b.length)).map (QOy f n x y had off b)
def QEJ(f:Int->List UInt8)(n:Int)(x:Ino)(off:Int)(b:List UInt8):Pln:=
 if off<0\/x.z<off then(1,[])else if 128-off<(b.length:Int)then(2,[])else
 if(frB f (nd (max x.z (off+b.length))-nd x.z)).length≠nd (max x.z (off+b.length))-nd x.z then(2,[])else
 (0,XJ f n x (Xk x (max x.z (off+b.length)) (nd x.z) (frB f (nd (max x.z (off+b.length))-nd x.z))) (nd x.z) off b 4++
  if Xk x (max x.z (off+b.length)) (nd x.z) (frB f (nd (max x.z (off+b.length))-nd x.z))=x then []else
  [.wr ⟨1+n,Z3 (Xk x (max x.z (off+b.length)) (nd x.z) (frB f (nd (max x.z (off+b.length))-nd x.z))),2,n,0⟩])
def QIh(f:Int->List UInt8)(q:Int×Ino×Int)(off:Int)(b:List UInt8):Pln:=if q.2.2≠0 then(q.2.2,[])else QEJ f q.1 q.2.1 off b
def QG4(f:Int->List UInt8)(p:List UInt8)(off:Int)(b:List UInt8):Pln:=QIh f (Xc f p) off b
def QLL(f:Int->List UInt8)(p:List UInt8)(b:List UInt8):Pln:=QIh f (Xc f p) (Xc f p).2.1.z b
def trI(x:Ino)(tq:Int):Ino:=⟨x.k,tq,if 0<nd tq then x.b0 else 0,if 1<nd tq then x.b1 else 0,if 2<nd tq then x.b2 else 0,if 3<nd tq then x.b3 else 0⟩
def QOz(q:Int×Ino×Int)(tq:Int):Pln:=
 if q.2.2≠0 then(q.2.2,[])else if tq<0\/q.2.1.z<tq then(1,[])else if tq=q.2.1.z then(0,[])else(0,[.wr ⟨1+q.1,Z3 (trI q.2.1 tq),2,q.1,0⟩])
def QFc(f:Int->List UInt8)(p:List UInt8)(tq:Int):Pln:=QOz (Xc f p) tq
def QG5(p q:List UInt8):Bool:=decide ((QI p).2=0/\(QI q).2=0/\(QI q).1.length<=(QI p).1.length/\(QI p).1.take (QI q).1.length=(QI q).1)
def QLM(frm tq:List UInt8):Bool:=QG5 tq frm||decide ((QI frm).1.length<(QI tq).1.length)
def QIi(f:Int->List UInt8)(a b:Plc)(x:Ent):Pln:=
 if b.k<0/\a.fo=b.fo then(0,[.wr ⟨17+a.k,ZR x,3,b.fo,0⟩])else
 match (if b.k<0 then frE f else some b.k.toNat)with
 |none=>(2,[])
 |some k=>(0,[.wr ⟨17+(k:Nat),ZR x,3,b.fo,0⟩,.bar,.wr ⟨17+a.k,ZR ZG,3,a.fo,0⟩])
def QO0(f:Int->List UInt8)(frm tq:List UInt8)(a b:Plc×Int):Pln:=
 if(Z4 frm).2.2≠0 then((Z4 frm).2.2,[])else if(Z4 tq).2.2≠0 then((Z4 tq).2.2,[])else
 if a.2≠0 then(a.2,[])else if a.1.k<0 then(4,[])else if b.2≠0 then(b.2,[])else
 if frm=tq\/b.1.k=a.1.k then(0,[])else
 if(QF f (QA f a.1.k).t).k=2/\QLM frm tq=true then(1,[])else
 if 0<=b.1.k/\((QF f (QA f a.1.k).t).k=2\/(QF f (QA f b.1.k).t).k=2)then(5,[])else
 QIi f a.1 b.1 ⟨(QA f a.1.k).u,b.1.fo,b.1.nm,(QA f a.1.k).t⟩
def QFd(f:Int->List UInt8)(frm tq:List UInt8):Pln:=QO0 f frm tq (ZH f frm) (ZH f tq)
def QO1(f:Int->List UInt8)(a:Plc×Int):Pln:=
 if a.2≠0 then(a.2,[])else if a.1.k<0 then(4,[])else
 if(QF f (QA f a.1.k).t).k=2/\nms f (QA f a.1.k).t≠[]then(7,[])else(0,[.wr ⟨17+a.1.k,ZR ZG,3,a.1.fo,0⟩])
def QFe(f:Int->List UInt8)(p:List UInt8):Pln:=QO1 f (ZH f p)
def runP(bad:List Int)(d:Dk)(x:Pln):Dk×Int:=if x.1≠0 then(d,x.1)else YT bad d x.2
section
variable {f g:Int->List UInt8} (h:∀n:Int,0<=n->f n=g n)
include h
end
theorem QJ0:RI ZZ:= .inl ⟨.inl rfl,rfl,rfl,rfl,rfl,rfl⟩
theorem QCy(f:Int->List UInt8)(p:List UInt8):RI (Xc f p).2.1:=by
 unfold Xc;split
 ·exact QJ0
 ·split
  ·exact QJ0
  ·exact J1 f _
section
variable {f g:Int->List UInt8} (h:∀n:Int,0<=n->f n=g n)
include h
end
def QEK(s:List UInt8)(a:Nat)(c:List UInt8):List UInt8:=s.take a++c++s.drop (a+c.length)
theorem QMr{c:List UInt8}(h:a+c.length<=s.length):(QEK s a c).length=s.length:=by
 unfold QEK;simp only[zu,z7,ym];omega
theorem QBI(base:List UInt8)(i:Nat)(off:Int)(b:List UInt8):(QIg base i off b).length=32:=by unfold QIg;rw[ze,yy]
def atK(off:Int)(len:Nat)(k:Nat):Int:=min (max off (32*(k:Int))) (off+(len:Int))
theorem QMs{base:List UInt8}(hb:base.length=32){b:List UInt8}(h0:0<=off)(hk:32*(k:Int)<=off\/off<=32*(k:Int))(hlt:atK off b.length k<off+b.length)(hu:off<32*(k:Int)+32):
  QEK base (atK off b.length k-32*(k:Int)).toNat ((b.drop (atK off b.length k-off).toNat).take (atK off b.length (k+1)-atK off b.length k).toNat)=QIg base k off b:=by
 have e1:atK off b.length k=max off (32*(k:Int)):=by unfold atK at hlt⊢;omega
 have e2:atK off b.length (k+1)=min (32*(k:Int)+32) (off+b.length):=by unfold atK;omega
 rw[e1,e2]at*
 have hl:((b.drop (max off (32*(k:Int))-off).toNat).take (min (32*(k:Int)+32) (off+b.length)-max off (32*(k:Int))).toNat).length=(min (32*(k:Int)+32) (off+b.length)-max off (32*(k:Int))).toNat:=by
  rw[z7,ym];omega
 unfold QEK;refine vy ?_ λj h1 h2=>?_
 ·rw [QBI,zu,zu,hl,z7,ym];omega
 ·rw [QBI]at h2;have hg:∀(h:j<(QIg base k off b).length),(QIg base k off b)[j]=if off<=32*(k:Int)+(j:Int)/\32*(k:Int)+(j:Int)<off+(b.length:Int)then b.getD (32*(k:Int)+(j:Int)-off).toNat 0 else base.getD j 0:=λh=>by
   simp only[QIg,zy,wh]
  rw[hg];by_cases c1:j<(max off (32*(k:Int))-32*(k:Int)).toNat
  ·rw [zx (by rw[zu,z7];omega),zx (by rw[z7];omega),if_neg om,xo,zo,zk om];rfl
  ·by_cases c2:j<(max off (32*(k:Int))-32*(k:Int)).toNat+(min (32*(k:Int)+32) (off+b.length)-max off (32*(k:Int))).toNat
   ·rw [zx (by rw[zu,z7,hl];omega),ya (by rw[z7];omega),if_pos om,xo,xq,zo,zk om,ko];congr 1;rw[z7];omega
   ·rw [ya (by rw[zu,z7,hl];omega),if_neg om,xq,zo,zk om,ko];congr 1;rw[zu,hl,z7];omega
theorem QEj(f:Int->List UInt8)(n:Int)(x y:Ino)(had:Nat)(off:Int)(b:List UInt8)(k:Nat):XJ f n x y had off b (k+1)=XJ f n x y had off b k++if QEI off b.length k=true then [QOy f n x y had off b k]else []:=by
 unfold XJ;rw[x3,x6,yh];congr 1;by_cases h:QEI off b.length k=true
 ·rw [if_pos h,Wn h];rfl
 ·rw [if_neg h,Wo h];rfl
theorem QLN{n:Int}{b:List UInt8}(h:∀i,i<k->QEI off b.length i=false):XJ f n x y had off b k=[]:=by
 unfold XJ;rw[jx.2 λi hi=>by rw[h i (yj.1 hi)];simp];rfl
theorem QG6{n:Int}{b:List UInt8}(hk:∀i,k<=i->QEI off b.length i=false):∀j,XJ f n x y had off b (k+j)=XJ f n x y had off b k
 |0=>rfl
 |j+1=>by
  rw[<-wc,QEj,QG6 hk j,hk (k+j) om];simp
def InR(d:Dk):Prop:=∀w∈d.wait,0<=w.a/\w.a<d.safe.length
theorem QIj(n:Int):YQ n []=none:=rfl
theorem QG7(m:List (List UInt8))(ws:List Wr)(x:Wr):Qg m (ws++[x])=YY (Qg m ws) x:=by unfold Qg;rw[vr];rfl
theorem QIk(d:Dk)(n:Int)(h0:0<=n):rdS (some d) n=imS (Qg d.safe d.wait) n:=by
 obtain⟨nx,safe,wait,log,ep⟩:=d;have key:∀l:List Wr,rdS (some ⟨nx,safe,l,log,ep⟩) n=imS (Qg safe l) n:=by
  intro l;have hrec:∀k,∀l:List Wr,l.length=k->rdS (some ⟨nx,safe,l,log,ep⟩) n=imS (Qg safe l) n:=by
   intro k;induction k with
   |zero=>
    intro l hl;have:l=[]:=y4.1 hl;subst this;unfold rdS imS;dsimp only;rw[QIj];show(if _ then safe.getD n.toNat Qz else Qz)=safe.getD n.toNat Qz;split
    ·rfl
    ·rename_i hc;rw[zo,vg om];rfl
   |succ k ih=>
    intro l hl;have hne:l≠[]:=λh=>by rw[h]at hl;simp at hl
    obtain⟨t,x,rfl⟩:∃t x,l=t++[x]:=⟨l.dropLast,l.getLast hne,(List.dropLast_concat_getLast hne).symm⟩;have iht:=ih t (by simpa using hl);rw[QG7];have h2:=Yc safe t;unfold rdS at iht⊢;dsimp only at iht⊢;rw[QCT];unfold YY imS;by_cases hx:x.a=n
    ·subst hx;by_cases hr:0<=x.a/\x.a<safe.length
     ·rw [if_pos hr,if_pos rfl,if_pos (show 0<=x.a/\x.a<((Qg safe t).length:Int) by rw[h2];exact hr)];show x.s=((Qg safe t).set x.a.toNat x.s).getD x.a.toNat Qz;rw[zo,Wu (by rw[h2];omega)];rfl
     ·rw [if_neg hr,if_neg (show¬(0<=x.a/\x.a<((Qg safe t).length:Int)) by rw[h2];exact hr),zo,vg (by rw[h2];omega)];rfl
    ·rw [if_neg hx];unfold imS at iht;rw[iht];split
     ·rw [zo,zo,qf om]
     ·rfl
  exact hrec l.length l rfl
 exact key wait
def Qx(b:Bool)(bad:List Int)(d:Dk):List (Nat×Ob):=JK b bad d++[(5,.cells 1 [.ptr 0 0])]
def QFf:Stp->Prop
 | .wr w=>w.s.length=32/\0<=w.a/\w.a<65
 | .bar=>True
structure Evt where
 k:Int
 w:Wr
 t:List (Int×Int)
def Qe(t:Int×Int):List D:=[.it .i64 t.1,.it .i64 t.2]
def QSu(e:Evt):List D:=[.it .i64 e.k]++Q6 e.w++[.fs 2 (e.t.map Qe)]
def QO2(l:List (List D)):Prop:=∃es:List Evt,l=es.map QSu/\∀e∈es,e.w.s.length=32/\e.t.length<=1000
theorem QO2.snoc{l:List (List D)}(h:QO2 l)(e:Evt)(h1:e.w.s.length=32)(h2:e.t.length<=1000):QO2 (l++[QSu e]):=by
 obtain⟨es,rfl,h3⟩:=h;refine⟨es++[e],by rw[yh];rfl,λx hx=>?_⟩;rcases yi.1 hx with hx|hx
 ·exact h3 x hx
 ·rw [xg.1 hx];exact⟨h1,h2⟩
structure Fd(bad:List Int)(d:Dk)(N:Nat):Prop where
 s:∀s∈d.safe,s.length=32
 w:∀w∈d.wait,w.s.length=32
 r:InR d
 b:DB d N
 n:d.safe.length=65
 bl:bad.length<=1000000
 ep: -(N:Int)<=d.ep/\d.ep<=N
 lg:QO2 d.log
 hN:N<=90000
variable {bad:List Int}
theorem Fd.ok(h:Fd bad d N):Zs (some d):=⟨h.s,h.w,by rw[h.n];exact zr _,by have:=h.b.w;have:=h.hN;omega⟩
theorem DB.mono(h:DB d N)(hm:N<=M):DB d M:=⟨⟨h.nx.1,by have:=h.nx;omega⟩,y9 h.w hm,y9 h.l hm,h.s,h.s0⟩
theorem Fd.mono(h:Fd bad d N)(hm:N<=M)(hM:M<=90000):Fd bad d M:=⟨h.s,h.w,h.r,h.b.mono hm,h.n,h.bl,by have:=h.ep;omega,h.lg,hM⟩
theorem Fd.tk(h:Fd bad d N)(hM:N+1<=90000):Fd bad (tk d) (N+1):=
 ⟨h.s,h.w,h.r,⟨⟨by have:=h.b.nx;show 0<=d.nx+1;omega,by have:=h.b.nx;show d.nx+1<=_;omega⟩,qz h.b.w,qz h.b.l,h.b.s,h.b.s0⟩,h.n,h.bl,by have:=h.ep;show-((N+1:Nat):Int)<=d.ep/\d.ep<=((N+1:Nat):Int);omega,h.lg,hM⟩
theorem Fd.bar(h:Fd bad d N)(hM:N+1<=90000):Fd bad (QG2 d) (N+1):=
 ⟨h.s,h.w,h.r,⟨⟨by have:=h.b.nx;show 0<=d.nx+1;omega,by have:=h.b.nx;show d.nx+1<=_;omega⟩,qz h.b.w,by show(d.log++[_]).length<=_;rw[zu];exact Wf h.b.l,h.b.s,h.b.s0⟩,h.n,h.bl,by have:=h.ep;show-((N+1:Nat):Int)<=d.ep+1/\d.ep+1<=((N+1:Nat):Int);omega,h.lg.snoc ⟨3,w0,[]⟩ rfl (yc _),hM⟩
theorem Fd.wr(h:Fd bad d N)(hM:N+1<=90000)(w:Wr)(hw:QFf (.wr w)):Fd bad (wrD d w) (N+1):=
 ⟨h.s,(λx hx=>by
  rcases yi.1 hx with hx|hx
  ·exact h.w x hx
  ·rw [xg.1 hx];exact hw.1),(λx hx=>by
  rcases yi.1 hx with hx|hx
  ·exact h.r x hx
  ·rw [xg.1 hx];have h2:=hw.2;have:=h.n;show 0<=w.a/\w.a<(d.safe.length:Int);omega),
  ⟨⟨by have:=h.b.nx;show 0<=d.nx+1;omega,by have:=h.b.nx;show d.nx+1<=_;omega⟩,by show(d.wait++[_]).length<=_;rw[zu];exact Wf h.b.w,by show(d.log++[_]).length<=_;rw[zu];exact Wf h.b.l,h.b.s,h.b.s0⟩,h.n,h.bl,by have:=h.ep;show-((N+1:Nat):Int)<=d.ep/\d.ep<=((N+1:Nat):Int);omega,h.lg.snoc ⟨1,{w with e:=d.ep},[]⟩ hw.1 (yc _),hM⟩
theorem Fd.run{bad:List Int}:∀(l:List Stp) {d:Dk} {N:Nat},Fd bad d N->N+l.length<=90000->(∀s∈l,QFf s)->Fd bad (YT bad d l).1 (N+l.length)
 |[],d,N,h,hM,_=>h
 | .wr w::t,d,N,h,hM,hl=>by
  have hM':N+(t.length+1)<=90000:=hM;show Fd bad (YT bad d (.wr w::t)).1 (N+(t.length+1));unfold YT;split
  ·exact (h.tk om).mono om hM'
  ·have:=Fd.run t (h.wr om w (hl _ zm)) om λs hs=>hl s (zi _ hs);exact this.mono om hM'
 | .bar::t,d,N,h,hM,hl=>by
  have hM':N+(t.length+1)<=90000:=hM;show Fd bad (YT bad d (.bar::t)).1 (N+(t.length+1));unfold YT;split
  ·exact (h.tk om).mono om hM'
  ·have:=Fd.run t (h.bar om) om λs hs=>hl s (zi _ hs);exact this.mono om hM'
def doA(b:Bool)(bad:List Int)(T:Nat->Nat)(l:List Stp):Nat×Dk->S|(k,D)=>⟨[(0,.ptr 5 0),(1,.d (.fs 37 (l.map Y6))),(5,.d (.it .i64 0)),(8,.d (.fs 37 (l.map Y6))),(9,.d (.it .i64 (l.length:Nat))),(10,.d (.it .i64 (k:Nat)))],Qx b bad D++Qv 6 [0,5] T,9⟩
theorem QDW(h:Fd bad d N)(l:List Stp)(hw:∀s∈l,QFf s)(hl:l.length<=100):
  FnH Tryz.prog 130 [.ptr 5 0,.d (.fs 37 (l.map Y6))] (Qx b bad d) 6 [0,5] (.d (.it .i64 (YT bad d l).2)) (Qx b bad (YT bad d l).1) 6:=by
 have hwl:(l.map Y6).length=l.length:=ze ..;have hN:=h.hN;obtain⟨R,hR⟩:∃R,YT bad d l=R:=⟨_,rfl⟩;rw[hR];refine QV QTq λT=>?_;(repeat' (conv=>whnf);first|refine QC ?_|intro x hx hu|intro h|apply sS);conv=>whnf
 refine Qa QE (λx:Nat×Dk=>x.1<=l.length/\YT bad x.2 (l.drop x.1)=R/\DB x.2 (N+x.1)/\x.2.safe.length=65/\ -((N+x.1:Nat):Int)<=x.2.ep/\x.2.ep<=(N+x.1:Nat)) (doA b bad T l) (λx=>l.length-x.1) (0,d) ⟨yc _,hR,h.b,h.n,h.ep⟩ (Wk.en ⟨ai rfl (ai rfl (ai rfl (ai rfl (ai (QM (by rw[hwl])) rr)))),rr,rfl⟩) ?_;intro⟨k,D⟩ hk0;have hk:=hk0.1;have hr:=hk0.2.1;have hb:=hk0.2.2.1;have hn:=hk0.2.2.2.1;have hep:=hk0.2.2.2.2;dsimp only at hk hr hb hn hep;by_cases hkl:k<l.length
 ·obtain ⟨s,hx⟩:=Q8 hkl;have hws:=hw s (yw hx);have hdr:l.drop k=s::l.drop (k+1):=by
   obtain⟨hk',e⟩:=yb.1 hx;rw[ji hk',e]
  rw[hdr]at hr;have hbk:DB D 1000000:=⟨by have:=hb.nx;omega,by have:=hb.w;omega,by have:=hb.l;omega,hb.s,hb.s0⟩;cases s with
  |wr w=>
   unfold YT at hr;have hin:0<=w.a/\w.a<D.safe.length:=⟨hws.2.1,by rw[hn];exact hws.2.2⟩;have hb1:DB (wrD D w) (N+(k+1)):=⟨⟨by have:=hb.nx;show 0<=D.nx+1;omega,by have:=hb.nx;show D.nx+1<=_;omega⟩,by have:=hb.w;show(D.wait++[_]).length<=_;rw[zu,xm];omega,by have:=hb.l;show(D.log++[_]).length<=_;rw[zu,xm];omega,hb.s,hb.s0⟩;obtain⟨wa,wS,wk,wi,we⟩:=w;have hW:=QQ2 b bad D wa wS hws.1 wk wi hbk hin;by_cases hbad:D.nx∈bad
   ·rw [if_pos hbad]at hr;rw[if_pos hbad,if_pos hbad]at hW;obtain⟨g,rfl⟩:=JZ hws.1;(repeat' (conv=>whnf);first|with_reducible refine Zr hx ?_|with_reducible refine AtA.mk' ?_|refine CallI.h hW [0,1,2,3,4] ?_|refine gOI ?_|intro x hx hu|intro h|apply sS);all_goals try omega
    rw[<-hr];exact QO
   ·rw [if_neg hbad]at hr;rw[if_neg hbad,if_neg hbad]at hW;obtain⟨g,rfl⟩:=JZ hws.1;(repeat' (conv=>whnf);first|with_reducible refine Zr hx ?_|with_reducible refine AtA.mk' ?_|refine CallI.h hW [0,1,2,3,4] ?_|refine gOI ?_|intro x hx hu|intro h|apply sS);all_goals try omega
    exact⟨(k+1,wrD D ⟨wa,Zu g,wk,wi,we⟩),⟨hkl,hr,hb1,hn,by show-((N+(k+1):Nat):Int)<=D.ep/\D.ep<=((N+(k+1):Nat):Int);omega⟩,by first|omega|(dsimp only;omega),Wk.en ⟨ai rfl (ai rfl (ai rfl (ai rfl (ai rfl (ai (QM om) trivial))))),rr,rfl⟩⟩
  |bar=>
   unfold YT at hr;have hb1:DB (QG2 D) (N+(k+1)):=⟨⟨by have:=hb.nx;show 0<=D.nx+1;omega,by have:=hb.nx;show D.nx+1<=_;omega⟩,by have:=hb.w;show D.wait.length<=_;omega,by have:=hb.l;show(D.log++[_]).length<=_;rw[zu,xm];omega,hb.s,hb.s0⟩;have hW:=QJy b bad D hbk om;by_cases hbad:D.nx∈bad
   ·rw [if_pos hbad]at hr;rw[if_pos hbad,if_pos hbad]at hW;(repeat' (conv=>whnf);first|with_reducible refine Zr hx ?_|with_reducible refine AtA.mk' ?_|refine CallI.h hW [0,1,2,3,4] ?_|refine gOI ?_|intro x hx hu|intro h|apply sS);all_goals try omega
    rw[<-hr];exact QO
   ·rw [if_neg hbad]at hr;rw[if_neg hbad,if_neg hbad]at hW;(repeat' (conv=>whnf);first|with_reducible refine Zr hx ?_|with_reducible refine AtA.mk' ?_|refine CallI.h hW [0,1,2,3,4] ?_|refine gOI ?_|intro x hx hu|intro h|apply sS);all_goals try omega
    exact⟨(k+1,QG2 D),⟨hkl,hr,hb1,hn,by show-((N+(k+1):Nat):Int)<=D.ep+1/\D.ep+1<=((N+(k+1):Nat):Int);omega⟩,by first|omega|(dsimp only;omega),Wk.en ⟨ai rfl (ai rfl (ai rfl (ai rfl (ai rfl (ai (QM om) trivial))))),rr,rfl⟩⟩
 ·have hnil:l.drop k=[]:=wn om;rw[hnil]at hr;replace hr:(D,(0:Int))=R:=hr;(repeat' (conv=>whnf);first|refine QC ?_|intro x hx hu|intro h|apply sS);rw[<-hr];exact QO
def QDX(d:Option Dk):List (List UInt8):=match d with
 |none=>[]
 |some dk=>dk.safe
theorem QJ1(d:Option Dk)(hd:Zs d):FnC Tryz.prog 49 [.d (QQ d)] (.d (.fs 32 ((QDX d).map QJ))):=by
 have hn:=QJm d;cases d with
 |none=>
  have hn:FnC Tryz.prog 57 [.d (.ot (.pointer none))] (.d (.bl true)):=hn;refine QK i49 ?_;(repeat' (conv=>whnf);first|refine cEk hn ?_|refine QC ?_|intro x hx hu|intro h|apply sS);rfl
 |some d=>
  obtain⟨nx,safe,wait,log,ep⟩:=d;have hlen:safe.length<=65:=hd.2.2.1;by_cases h0:safe=[]
  ·subst h0;have hn:FnC Tryz.prog 57 [.d (.fp 6 (QDM ⟨nx,[],wait,log,ep⟩))] (.d (.bl true)):=hn;refine QK i49 ?_;(repeat' (conv=>whnf);first|refine cEk hn ?_|refine QC ?_|intro x hx hu|intro h|apply sS);rfl
  ·have hne:(safe.map QJ).isEmpty=false:=by
    cases safe with
    |nil=>exact absurd rfl h0
    |cons=>rfl
   have hnb:QJl (some ⟨nx,safe,wait,log,ep⟩)=false:=decide_eq_false λq=>h0 (y4.1 q);rw[hnb]at hn;have hml':(safe.map QJ).length=safe.length:=ze ..;refine QK i49 ?_;(repeat' (conv=>whnf);first|refine cEk hn ?_|refine cI i60 ?_|with_reducible refine Spl.no hne ?_|refine gOI ?_|intro x hx hu|intro h|apply sS);rfl
def QBz(d:Option Dk):AV:=if J0 (Xa d)then .tup [.d (.fp 1 [QQ d]),.d (.it .i64 0)]else .tup [.d (.ot (.pointer none)),.d (.it .i64 (if QDX d=[]then 1 else 8))]
theorem QMt(d:Option Dk):(Xa d).length=(QDX d).length:=by
 cases d with
 |none=>rfl
 |some dk=>unfold Xa QDX;simp
theorem QG8(d:Option Dk)(hd:Zs d):FnC Tryz.prog 20 [.d (QQ d)] (QBz d):=by
 have hs:=QJ1 d hd;have hm:=QAq d hd;have hl:=QMt d;have hsl:((QDX d).map QJ).length=(QDX d).length:=ze ..;unfold QBz;generalize QQ d=E at*
 by_cases h0:QDX d=[]
 ·have hn:¬J0 (Xa d):=λh=>by
   have:=h.1;rw[hl,h0]at this;cases this
  rw[if_neg hn,if_pos h0];rw[h0]at hs;refine QK i20 ?_;(repeat' (conv=>whnf);first|refine cEk hs ?_|refine QC ?_|intro x hx hu|intro h|apply sS);rfl
 ·have h0':(QDX d).length≠0:=λq=>h0 (y4.1 q);by_cases hp:J0 (Xa d)
  ·rw [if_pos hp];rw[decide_eq_true hp]at hm;refine FnC.introW QE Tryz.func20 rfl Tryz.ntmps20 Tryz.call20 rfl (bll rfl) rfl ?_;(repeat' (conv=>whnf);first|refine cEk hs ?_|refine cEk hm ?_|refine QC ?_|intro x hx hu|intro h|apply sS);refine⟨⟨[(2,.d (.fp 1 [E])),(3,.d (.it .i64 0))],[],1⟩,Wk.frzPL 0 1 [.d E] wu (ai ⟨_,by with_unfolding_all exact rfl,.inr ⟨[E],by with_unfolding_all exact rfl,rfl,rfl⟩⟩ (ai ⟨_,by with_unfolding_all exact rfl,.inl rfl⟩ trivial)) trivial rfl,?_⟩;exact rfl
  ·rw [if_neg hp,if_neg h0];rw[decide_eq_false hp]at hm;refine QK i20 ?_;(repeat' (conv=>whnf);first|refine cEk hs ?_|refine cEk hm ?_|refine QC ?_|intro x hx hu|intro h|apply sS);rfl
theorem QLO(E:D)(dk:Dk)(hE:E=QQ (some dk)):FnC Tryz.prog 50 [.d (.fp 1 [E])] (.d (.bl false)):=by
 have hE:E= .fp 6 (QDM dk):=hE;subst hE;refine QK i50 ?_;(repeat' (conv=>whnf);first|refine QC ?_|intro x hx hu|intro h|apply sS);rfl
theorem JL(n:Int)(h:0<=n/\n<=1000):FnC Tryz.prog 122 [.d (.it .i64 n)] (.d (.it .i64 ((n+31)/32))):=by
 refine QK QTk ?_;(repeat' (conv=>whnf);first|refine QC ?_|intro x hx hu|intro h|apply sS);refine QM ?_;omega
theorem QMu(dk:Dk)(hd:Zs (some dk))(b:Int)(hb: -1000<=b/\b<=1000):FnC Tryz.prog 123 [.d (.fp 1 [QQ (some dk)]),.d (.it .i64 b)] (.dg 32 (QJ (rdS (some dk) (40+b)))):=by
 have h:=QCw (some dk) hd (41+b-1);rw[show rdS (some dk) (41+b-1)=rdS (some dk) (40+b)from congrArg _ om]at h;have hs:=X6 hd (40+b);have h:FnC Tryz.prog 12 [.d (.fp 6 (QDM dk)),.d (.it .i64 (41+b-1))] (.tup [.dg 32 (QJ (rdS (some dk) (40+b))),.d (.it .i64 (rdE (some dk) (41+b-1)))]):=h;show FnC Tryz.prog 123 [.d (.fp 1 [.fp 6 (QDM dk)]),.d (.it .i64 b)] _;obtain⟨g,hg⟩:=JZ hs;rw[hg]at h⊢;refine QK QTl ?_;(repeat' (conv=>whnf);first|refine cEk h ?_|refine QC ?_|intro x hx hu|intro h|apply sS);all_goals rfl
theorem QG9:∀(l:List (List UInt8)),(∀s∈l,s.length<=8)->(YA l).length<=9*l.length
 |[],_=>zr _
 |s::t,h=>by
  have h1:=QG9 t λx hx=>h x (zi _ hx);have h2:=h s zm;have e:YA (s::t)=47::s++YA t:=rfl;rw[e,zu,yo,yo];omega
theorem QO3(p:List UInt8):(Z4 p).1.length<=100:=by
 unfold Z4;split
 ·exact yc _
 ·split
  ·exact yc _
  ·have h1:=Jz p;have h2:=QG9 (QI p).1.dropLast λs hs=>QGf h1.2.1 s (List.dropLast_subset _ hs);have h3:(QI p).1.dropLast.length<=4:=by rw[List.length_dropLast];omega
   unfold YC;split
   ·show [47].length<=100;decide
   ·show (YA _).length<=100;omega
def QJ2(a:Plc):List D:=[.it .i64 a.fo,.st a.nm,.it .i64 a.k]
def QSv(a:Plc×Int):AV:= .tup [.dg 3 (QJ2 a.1),.d (.it .i64 a.2)]
theorem Y7(a:Plc):FnC Tryz.prog 146 [.dg 3 (QJ2 a)] (.d (.bl (decide (0<=a.k)))):=by
 obtain⟨fo,nm,k⟩:=a;refine QK QTs ?_;(repeat' (conv=>whnf);first|refine QC ?_|intro x hx hu|intro h|apply sS);rfl
theorem QBJ(dk:Dk)(hd:Zs (some dk))(n:Int):FnC Tryz.prog 127 [.d (.fp 1 [QQ (some dk)]),.d (.it .i64 n)] (.d (.it .i64 (QF (rdS (some dk)) n).k)):=by
 have hi:=YD (some dk) hd n;generalize QQ (some dk)=E at*
 generalize QF (rdS (some dk)) n=x at*
 obtain⟨k,z,b0,b1,b2,b3⟩:=x;refine QK QTn ?_;(repeat' (conv=>whnf);first|refine cEk hi ?_|refine QC ?_|intro x hx hu|intro h|apply sS);rfl
theorem QDY(dk:Dk)(hd:Zs (some dk))(p:List UInt8)(hp:p.length<=100000):FnC Tryz.prog 144 [.d (.fp 1 [QQ (some dk)]),.d (.st p)] (QSv (ZH (rdS (some dk)) p)):=by
 have h1:=QIZ p hp;rw[QMq]at h1;have hul:=QO3 p;have h2:=QBv (some dk) hd (Z4 p).1 om;have h3:=QBJ dk hd (ZA (rdS (some dk)) (Z4 p).1).1;have h4:=QJo (some dk) hd (ZA (rdS (some dk)) (Z4 p).1).1 (Z4 p).2.1;unfold ZH QOx;generalize ZA (rdS (some dk)) (Z4 p).1=r at*
 generalize Z4 p=q at*
 obtain⟨up,nm,e⟩:=q;obtain⟨n,g⟩:=r;dsimp only at*
 generalize rdS (some dk)=f at*
 generalize QQ (some dk)=E at*
 replace h2:FnC Tryz.prog 13 [.d E,.d (.st up)] (.tup [.d (.it .i64 n),.d (.it .i64 g)]):=h2;replace h1:FnC Tryz.prog 181 [.d (.st p)] (.tup [.d (.st up),.d (.st nm),.d (.it .i64 e)]):=h1;generalize (QF f n).k=kk at*
 by_cases c1:e=0
 ·subst c1;rw[if_neg (by simp)];by_cases c2:g=0
  ·subst c2;rw[if_neg (by simp)];by_cases c3:kk=2
   ·subst c3;rw[if_neg (by simp)];cases hk:XI f n nm with
    |none=>
     rw[hk]at h4;replace h4:FnC Tryz.prog 112 [.d E,.d (.it .i64 n),.d (.st nm)] (.tup [.d (.it .i64 0),.d (.bl false)]):=h4;refine QK QL1 ?_;(repeat' (conv=>whnf);first|refine cEk h1 ?_|refine cEk h2 ?_|refine cEk h3 ?_|refine cEk h4 ?_|refine QC ?_|intro x hx hu|intro h|apply sS);rfl
    |some k=>
     rw[hk]at h4;replace h4:FnC Tryz.prog 112 [.d E,.d (.it .i64 n),.d (.st nm)] (.tup [.d (.it .i64 (k:Nat)),.d (.bl true)]):=h4;refine QK QL1 ?_;(repeat' (conv=>whnf);first|refine cEk h1 ?_|refine cEk h2 ?_|refine cEk h3 ?_|refine cEk h4 ?_|refine QC ?_|intro x hx hu|intro h|apply sS);rfl
   ·rw [if_pos c3];refine QK QL1 ?_;(repeat' (conv=>whnf);first|refine cEk h1 ?_|refine cEk h2 ?_|refine cEk h3 ?_|refine QC ?_|intro x hx hu|intro h|apply sS);rfl
  ·rw [if_pos c2];refine QK QL1 ?_;(repeat' (conv=>whnf);first|refine cEk h1 ?_|refine cEk h2 ?_|refine QC ?_|intro x hx hu|intro h|apply sS);rfl
 ·rw [if_pos c1];refine QK QL1 ?_;(repeat' (conv=>whnf);first|refine cEk h1 ?_|refine QC ?_|intro x hx hu|intro h|apply sS);rfl
def QLP(a:Plc×Int):Plc×Int:=if a.2=0/\a.1.k<0 then(a.1,4)else a
theorem QMv(dk:Dk)(hd:Zs (some dk))(p:List UInt8)(hp:p.length<=100000):FnC Tryz.prog 126 [.d (.fp 1 [QQ (some dk)]),.d (.st p)] (QSv (QLP (ZH (rdS (some dk)) p))):=by
 have h1:=QDY dk hd p hp;have h2:=Y7 (ZH (rdS (some dk)) p).1;generalize ZH (rdS (some dk)) p=a at*
 obtain⟨⟨fo,nm,k⟩,e⟩:=a;generalize QQ (some dk)=E at*
 replace h1:FnC Tryz.prog 144 [.d (.fp 1 [E]),.d (.st p)] (.tup [.dg 3 [.it .i64 fo,.st nm,.it .i64 k],.d (.it .i64 e)]):=h1;replace h2:FnC Tryz.prog 146 [.dg 3 [.it .i64 fo,.st nm,.it .i64 k]] (.d (.bl (decide (0<=k)))):=h2;unfold QLP;dsimp only;by_cases c1:e=0
 ·subst c1;by_cases c2:k<0
  ·rw [if_pos ⟨rfl,c2⟩];rw[decide_eq_false om]at h2;refine QK QQX ?_;(repeat' (conv=>whnf);first|refine cEk h1 ?_|refine cEk h2 ?_|refine QC ?_|intro x hx hu|intro h|apply sS);rfl
  ·rw [if_neg (by simp[c2])];rw[decide_eq_true om]at h2;refine QK QQX ?_;(repeat' (conv=>whnf);first|refine cEk h1 ?_|refine cEk h2 ?_|refine QC ?_|intro x hx hu|intro h|apply sS);rfl
 ·rw [if_neg (by simp[c1])];refine QK QQX ?_;(repeat' (conv=>whnf);first|refine cEk h1 ?_|refine QC ?_|intro x hx hu|intro h|apply sS);rfl
def QUg(q:Int×Ino×Int):AV:= .tup [.d (.it .i64 q.1),.dg 6 (ZM q.2.1),.d (.it .i64 q.2.2)]
theorem QDZ(dk:Dk)(hd:Zs (some dk))(p:List UInt8)(hp:p.length<=100000):FnC Tryz.prog 103 [.d (.fp 1 [QQ (some dk)]),.d (.st p)] (QUg (Xc (rdS (some dk)) p)):=by
 have hl:=QBv (some dk) hd p hp;have hi:=YD (some dk) hd (ZA (rdS (some dk)) p).1;have hn:=QLO (QQ (some dk)) dk rfl;unfold Xc;generalize ZA (rdS (some dk)) p=r at*
 obtain⟨n,g⟩:=r;dsimp only at*
 generalize QQ (some dk)=E at*
 replace hl:FnC Tryz.prog 13 [.d E,.d (.st p)] (.tup [.d (.it .i64 n),.d (.it .i64 g)]):=hl;generalize QF (rdS (some dk)) n=x at*
 obtain⟨k,z,b0,b1,b2,b3⟩:=x;by_cases c1:g=0
 ·subst c1;rw[if_neg (by simp)];by_cases c2:k=1
  ·subst c2;rw[if_neg (by simp)];refine QK QQW ?_;(repeat' (conv=>whnf);first|refine cEk hn ?_|refine cEk hl ?_|refine cEk hi ?_|refine QC ?_|intro x hx hu|intro h|apply sS);rfl
  ·rw [if_pos c2];refine QK QQW ?_;(repeat' (conv=>whnf);first|refine cEk hn ?_|refine cEk hl ?_|refine cEk hi ?_|refine QC ?_|intro x hx hu|intro h|apply sS);rfl
 ·rw [if_pos c1];refine QK QQW ?_;(repeat' (conv=>whnf);first|refine cEk hn ?_|refine cEk hl ?_|refine cEk hi ?_|refine QC ?_|intro x hx hu|intro h|apply sS);rfl
variable {mem:List (Nat×Ob)}
theorem frD(h0:Sy.look n0 mem=some (.cells 6 [.mp n3,.d (.it .i64 d.nx),.vx 32 n4 0 d.safe.length,.ts 36 (d.wait.map Q6) n1,.ts 38 d.log n2,.d (.it .i64 d.ep)]))(h4:Sy.look n4 mem=some (.vec 37 32 (d.safe.map QJ) fl)):
  FrA mem [.ptr n0 0] [QQ (some d)]:=
 FrA.fp n0 0 6 6 _ (QDM d) [] [] h0 (zr _) rfl (.pl _ _ _ _ rfl (.pl _ _ _ _ rfl (.vx _ _ _ _ _ _ _ _ h4 (ze ..) (.pl _ _ _ _ rfl (.pl _ _ _ _ rfl (.pl _ _ _ _ rfl .nil)))))) .nil
theorem frG{n5:Nat}(h5:Sy.look n5 mem=some (.cells 1 [.ptr n0 0]))(h0:Sy.look n0 mem=some (.cells 6 [.mp n3,.d (.it .i64 d.nx),.vx 32 n4 0 d.safe.length,.ts 36 (d.wait.map Q6) n1,.ts 38 d.log n2,.d (.it .i64 d.ep)]))(h4:Sy.look n4 mem=some (.vec 37 32 (d.safe.map QJ) fl)):
  FrA mem [.ptr n5 0] [.fp 1 [QQ (some d)]]:=
 FrA.fp n5 0 1 1 _ [QQ (some d)] [] [] h5 (zr _) rfl (frD h0 h4) .nil
theorem rFk{f:Nat}{o:Oper}{l l':List AV}{K:S->Prop}{r:AV}(h:FnC Tryz.prog f l' r)(k:K (σ.put o.dst r))(hA:ArF σ.mem l l':=by first|exact ArF.fr _ _ _ _ (frG wu wu wu) (by repeat' (first|exact ArF.nil|refine ArF.pl _ _ _ _ rfl ?_))|exact ArF.fr _ _ _ _ (frD wu wu) (by repeat' (first|exact ArF.nil|refine ArF.pl _ _ _ _ rfl ?_)))
  (hr:r.flatP=true:=by with_unfolding_all exact rfl):CallI Tryz.prog N o σ f l K:=rF h k hA hr
theorem QSw(h:R.length=N)(ha:ty.kd.agg=true)(hz:ty.size=N):ldA ty 0 ((R.map D.bl).map AV.d)= .dg N (R.map D.bl):=by
 unfold ldA;rw[ha,cond_true,hz,v7,yd (by simp[h])];unfold QDo;rw[XB]
def iR(f:Int->List UInt8)(k:Nat):List Bool:=(List.range 16).map λn:Nat=>decide (n=0)||(List.range k).any λj:Nat=>(QA f (j:Nat)).u&&decide ((QA f (j:Nat)).t=(n:Nat))
theorem QDa(f:Int->List UInt8)(k:Nat):(iR f k).length=16:=by unfold iR;rw[ze,yy]
theorem QSx{f:Int->List UInt8}{k:Nat}(h:(QA f (k:Nat)).u=false):iR f (k+1)=iR f k:=by
 unfold iR;refine qk λn _=>?_;rw[x3,jj];simp[h]
theorem QMw(f:Int->List UInt8)(k n:Nat)(h:n<(iR f k).length):(iR f k)[n]=(decide (n=0)||(List.range k).any λj:Nat=>(QA f (j:Nat)).u&&decide ((QA f (j:Nat)).t=(n:Nat))):=by
 simp only[iR,zy,wh]
theorem QQ6{f:Int->List UInt8}{k:Nat}{t:Int}(h:(QA f (k:Nat)).u=true)(ht:(QA f (k:Nat)).t=t)(h0:0<=t/\t<16):iR f (k+1)=(iR f k).set t.toNat true:=by
 refine vy (by rw[wp,QDa,QDa]) λn h1 h2=>?_;have e:(List.range (k+1)).any (λj:Nat=>(QA f (j:Nat)).u&&decide ((QA f (j:Nat)).t=(n:Nat)))=((List.range k).any (λj:Nat=>(QA f (j:Nat)).u&&decide ((QA f (j:Nat)).t=(n:Nat)))||decide (t=(n:Nat))):=by
  rw[x3,jj];simp[h,ht]
 rw[vp,QMw,QMw,e];by_cases hn:t.toNat=n
 ·rw [if_pos hn,decide_eq_true (show t=((n:Nat):Int) by omega)];simp
 ·rw [if_neg hn,decide_eq_false (show¬t=((n:Nat):Int) by omega)];simp
theorem QMx(f:Int->List UInt8):iR f 24=(List.range 16).map λn:Nat=>decide (Q1 f (n:Nat)):=by
 unfold iR;refine qk λn _=>?_;rw[wj,decide_eq_true_eq,wb,decide_eq_true_eq,vz];unfold Q1;constructor
 ·rintro (h|⟨j,hj,h⟩)
  ·exact .inl om
  ·rw [zf,decide_eq_true_eq]at h;exact .inr ⟨j,yj.1 hj,h⟩
 ·rintro (h|⟨j,hj,h1,h2⟩)
  ·exact .inl om
  ·exact .inr ⟨j,yj.2 hj,by rw[zf,decide_eq_true_eq];exact⟨h1,h2⟩⟩
def ioS(E:D)(R:List Bool)(k:Nat):S:=⟨[(0,.d E),(2,.ptr 0 0),(3,.ptr 1 0),(7,.d (.it .i64 (k:Nat)))],[(0,.cells 16 ((F16.map D.bl).map .d)),(1,.cells 16 ((R.map D.bl).map .d))],2⟩
theorem QIl(E:D)(R:List Bool)(k:Nat):(ioS E R k).ok=true:=by
 unfold ioS;simp only[S.ok,xc,xv,Ob.lt,XX];rfl
theorem QEk(d:Option Dk)(hd:Zs d):FnC Tryz.prog 194 [.d (QQ d)] (.dg 16 ((iR (rdS d) 24).map D.bl)):=by
 have he:=λn=>XC d hd n;have hRE:=λk:Nat=>QDT (rdS d) (k:Nat);have hn:=fun{k:Nat}=> @QSx (rdS d) k;have hy:=fun{k:Nat} {t:Int}=> @QQ6 (rdS d) k t;have hl:=QDa (rdS d);have h0:iR (rdS d) 0=true::List.replicate 15 false:=rfl;generalize iR (rdS d)=J at*
 generalize QQ d=E at*
 refine QK QUA ?_;(repeat' (conv=>whnf);first|refine QC ?_|intro x hx hu|intro h|apply sS);conv=>whnf
 refine Qu QE (λx:Nat×List Bool=>x.1<=24/\x.2=J x.1) (fun|(k,R)=>ioS E R k) (λx=>24-x.1) (0,true::List.replicate 15 false) ⟨yc _,h0.symm⟩ ⟨rr,ai (Qo rfl wu) (ai (Qo rfl wu) trivial),QIl ..⟩ ?_;intro⟨k,R⟩ hk0;have hk:=hk0.1;have hR:=hk0.2;dsimp only at hk hR;have hl1:R.length=16:=by rw[hR,hl]
 by_cases hk24:k<24
 ·have hek:=he (k:Nat);have hREk:=hRE k;have hn:=hn (k:=k);have hy:=fun{t:Int}=>hy (k:=k) (t:=t);generalize QA (rdS d) (k:Nat)=x at*
  obtain⟨xu,xp,xn,xt⟩:=x;dsimp only at*
  replace hek:FnC Tryz.prog 113 [.d E,.d (.it .i64 (k:Nat))] (.dg 4 [.bl xu,.it .i64 xp,.st xn,.it .i64 xt]):=hek;cases xu with
  |false=>
   have hst:=hn rfl;(repeat' (conv=>whnf);first|refine cEk hek ?_|refine QC ?_|intro x hx hu|intro h|apply sS);refine again (k+1,R) ⟨hk24,hR.trans hst.symm⟩ (by first|omega|(dsimp only;omega)) (ai rfl (ai rfl (ai rfl (ai (QM (by first|omega|(dsimp only;omega))) trivial)))) rr (QIl ..)
  |true=>
   have hb:1<=xt/\xt<16:=by
    rcases hREk with q|q
    ·cases q.1
    ·exact ⟨q.2.2.2.1,q.2.2.2.2.1⟩
   have hst:=hy rfl rfl ⟨by omega,hb.2⟩;rw[<-hR]at hst;have htl:xt.toNat<R.length:=by omega
   (repeat' (conv=>whnf);first|refine cEk hek ?_|refine QC ?_|intro x hx hu|intro h|apply sS);refine again (k+1,R.set xt.toNat true) ⟨hk24,hst.symm⟩ (by first|omega|(dsimp only;omega)) (ai rfl (ai rfl (ai rfl (ai (QM (by first|omega|(dsimp only;omega))) trivial)))) (ai rfl (ai (Qo rfl (stR htl rfl rfl)) trivial)) (QIl ..)
 ·have h24:k=24:=by omega
  rw[h24]at hR;(repeat' (conv=>whnf);first|refine AtA.eq (QSr hl1 rfl rfl) ?_|refine QC ?_|intro x hx hu|intro h|apply sS);conv=>whnf
  generalize hv:ldA _ 0 _=v;have hv':v= .dg 16 (R.map D.bl):=by
   rw[<-hv];refine QSs hl1 ?_ rfl rfl;show []++_++List.drop (0+16) ((F16.map D.bl).map AV.d)=_;rw[y6,show List.drop (0+16) ((F16.map D.bl).map AV.d)=[]from rfl,xh]
  rw[hv'];show AV.dg 16 (R.map D.bl)=_;rw[hR]
def FL(mk:Nat->Bool)(low i:Nat):List Nat:=(List.range' low (i-low)).filter λj=> !(mk j)
theorem QCz{mk:Nat->Bool}{low i:Nat}(h:low<=i):FL mk low (i+1)=FL mk low i++if mk i=true then []else [i]:=by
 unfold FL;rw[show i+1-low=(i-low)+1 by omega,List.range'_concat,x6,je,show low+(i-low)=i by omega];congr 1;cases h:mk i<;>simp[h]
theorem QMy{mk:Nat->Bool}{low i:Nat}(h:low<=i):∀j,∃t,FL mk low (i+j)=FL mk low i++t
 |0=>⟨[],by simp⟩
 |j+1=>by
  obtain⟨t,ht⟩:=QMy h j;rw[<-wc,QCz om,ht,y7];exact⟨_,rfl⟩
theorem QFg{mk:Nat->Bool}{low i all n:Nat}(h:low<=i)(ha:i<=all)(hn:n<=(FL mk low i).length):(FL mk low i).take n=(FL mk low all).take n:=by
 obtain⟨t,ht⟩:=QMy (mk:=mk) h (all-i);rw[show i+(all-i)=all by omega]at ht;rw[ht,ud hn]
theorem QIm(mk:Nat->Bool)(low i:Nat):(FL mk low i).length<=i-low:=by
 unfold FL;refine y9 (wq _ _) ?_;rw[List.length_range'];exact zr _
theorem okC{m:Nat}(h:k<m):([(k,Ob.cells N (l.map .d))].all λp=>Nat.blt p.1 m&&p.2.lt m&&p.2.pl)=true:=by
 simp only[xc,xv,Ob.lt,Ob.pl,XX,wx];simp[h]
theorem ntC{st:List Nat}:([(k,Ob.cells N (l.map .d))].all λp=>p.2.nt st p.1)=true:=by
 simp[Ob.nt,AV.nt1,AV.nt0]
def fiA(f:Nat)(low all n:Nat)(N:Nat)(R:List Bool)(T:Nat->Nat)(i:Nat)(l:List Nat):S:=⟨[(0,.d (.it .i64 (low:Nat))),(1,.d (.it .i64 (all:Nat))),(2,.d (.it .i64 (n:Nat))),(3,.fn (.func f) [] [.ptr 0 0]),(9,.ts 1 (vN l) 4),(10,.d (.it .i64 (i:Nat)))],(0,.cells N ((R.map D.bl).map .d))::(4,.tail 3 true)::Qv 1 [0] T,5⟩
theorem QB0(f:Nat)(low all n:Nat)(N:Nat)(R:List Bool)(T:Nat->Nat)(i:Nat)(l:List Nat):(fiA f low all n N R T i l).ok=true:=by
 unfold fiA;simp only[S.ok,xc,xv,Ob.lt,XX];rfl
theorem QFh(l:List (List D))(N:Nat)(R:List Bool)(T:Nat->Nat):(S.mk [(8,.d (.fs 1 l))] ((0,.cells N ((R.map D.bl).map .d))::Qv 1 [0] T) 5).ok=true:=by
 simp only[S.ok,xc,xv,Ob.lt,XX];rfl
theorem QLQ(R:List Bool)(hR:R.length=16)(low all n:Nat)(ha:all<=16)(hn:n<=1000)(hla:low<=all):
  FnH Tryz.prog 196 [.d (.it .i64 (low:Nat)),.d (.it .i64 (all:Nat)),.d (.it .i64 (n:Nat)),.fn (.func 197) [] [.ptr 0 0]] [(0,.cells 16 ((R.map D.bl).map .d))] 1 [0] (.d (.fs 1 (vN ((FL (λj=>R.getD j false) low all).take n)))) [(0,.cells 16 ((R.map D.bl).map .d))] 1:=by
 have hs:=fun{i:Nat}=> @QCz (λj=>R.getD j false) low i;have ht:=fun{i:Nat}=> @QFg (λj=>R.getD j false) low i all n;have hfl:=QIm (λj=>R.getD j false) low;have h0:FL (λj=>R.getD j false) low low=[]:=by unfold FL;rw[Wg];rfl
 generalize FL (λj=>R.getD j false) low=F at*
 refine FnH.intro QE Tryz.func196 rfl Tryz.ntmps196 Tryz.call196 rfl (okC (by decide)) (okC (by decide)) (by decide) rfl rfl ntC rfl rfl (λT=>?_);(repeat' (conv=>whnf);first|refine QC ?_|intro x hx hu|intro h|apply sS);conv=>whnf
 refine Qa QE (λx:Nat×List Nat=>low<=x.1/\x.1<=all/\x.2=(F x.1).take n) (fun|(i,l)=>fiA 197 low all n 16 R T i l) (λx=>all-x.1) (low,[]) ⟨zr _,hla,by rw[h0,qt]⟩ (Wk.en ⟨rr,rr,QB0 ..⟩) ?_;intro⟨i,l⟩ hi0;have hi1:=hi0.1;have hi2:=hi0.2.1;have hil:=hi0.2.2;dsimp only at hi1 hi2 hil;have hll:(vN l).length=l.length:=ze ..;have hfi:=hfl i;have hl2:l.length<=n/\l.length<=(F i).length:=by rw[hil,z7];omega
 have hst:n<=l.length\/¬i<all->l=(F all).take n:=λh=>by
  rcases h with h|h
  ·rw [hil,ht hi1 hi2 om]
  ·rw [hil,show i=all by omega]
 have hgo:l.length<n->l=F i:=λh=>by
  rw[hil,z7]at h;rw[hil,yd om]
 have hsu:=hs hi1;have hres:l=(F all).take n->AV.d (.fs 1 (vN l))=AV.d (.fs 1 (vN ((F all).take n))):=λh=>by rw[h]
 by_cases hia:i<all
 ·obtain ⟨r,hr⟩:=Q8 (l:=R) (k:=i) om;have hrd:R.getD i false=r:=by rw[zo,hr];rfl
  rw[hrd]at hsu;by_cases hln:l.length<n
  ·have hlF:=hgo hln;cases r with
   |true=>
    rw[if_pos rfl,xh]at hsu;(repeat' (conv=>whnf);first|refine AtA.eq (ldR hr rfl rfl) ?_|refine cI QSO ?_|refine gOI ?_|intro x hx hu|intro h|apply sS);all_goals try omega
    exact⟨(i+1,l),⟨by omega,hia,by rw[hsu,<-hlF,yd om]⟩,by first|omega|(dsimp only;omega),Wk.en ⟨ai rfl (ai rfl (ai rfl (ai rfl (ai rfl (ai (QM om) trivial))))),rr,QB0 ..⟩⟩
   |false=>
    rw[if_neg (by simp)]at hsu;(repeat' (conv=>whnf);first|refine AtA.eq (ldR hr rfl rfl) ?_|refine cI QSO ?_|refine gOI ?_|intro x hx hu|intro h|apply sS);all_goals try omega
    refine⟨(i+1,l++[i]),⟨by omega,hia,by rw[hsu,<-hlF,yd (by rw[zu,xm];omega)]⟩,by first|omega|(dsimp only;omega),Wk.en ⟨ai rfl (ai rfl (ai rfl (ai rfl (ai (QCe ?_) (ai (QM om) trivial))))),ai (Qo rfl (QJx ..)) rr,QB0 ..⟩⟩;show _=vN (l++[i]);unfold vN;rw[yh];rfl
  ·have hth:=hst (.inl om);(repeat' (conv=>whnf);first|refine QC ?_|intro x hx hu|intro h|apply sS);all_goals try omega
   conv=>whnf
   exact⟨⟨[(8,.d (.fs 1 (vN l)))],(0,.cells 16 ((R.map D.bl).map .d))::Qv 1 [0] T,5⟩,Wk.vwL (ai (Vw.ts' rfl) trivial) (ai (VwO.same _) (ai (VwO.same _) (ai (VwO.same _) trivial))) (QFh ..),hres hth,rr,rr⟩
 ·have hth:=hst (.inr hia);(repeat' (conv=>whnf);first|refine QC ?_|intro x hx hu|intro h|apply sS);all_goals try omega
  conv=>whnf
  exact⟨⟨[(8,.d (.fs 1 (vN l)))],(0,.cells 16 ((R.map D.bl).map .d))::Qv 1 [0] T,5⟩,Wk.vwL (ai (Vw.ts' rfl) trivial) (ai (VwO.same _) (ai (VwO.same _) (ai (VwO.same _) trivial))) (QFh ..),hres hth,rr,rr⟩
theorem QLR(R:List Bool)(hR:R.length=25)(low all n:Nat)(ha:all<=25)(hn:n<=1000)(hla:low<=all):
  FnH Tryz.prog 196 [.d (.it .i64 (low:Nat)),.d (.it .i64 (all:Nat)),.d (.it .i64 (n:Nat)),.fn (.func 200) [] [.ptr 0 0]] [(0,.cells 25 ((R.map D.bl).map .d))] 1 [0] (.d (.fs 1 (vN ((FL (λj=>R.getD j false) low all).take n)))) [(0,.cells 25 ((R.map D.bl).map .d))] 1:=by
 have hs:=fun{i:Nat}=> @QCz (λj=>R.getD j false) low i;have ht:=fun{i:Nat}=> @QFg (λj=>R.getD j false) low i all n;have hfl:=QIm (λj=>R.getD j false) low;have h0:FL (λj=>R.getD j false) low low=[]:=by unfold FL;rw[Wg];rfl
 generalize FL (λj=>R.getD j false) low=F at*
 refine FnH.intro QE Tryz.func196 rfl Tryz.ntmps196 Tryz.call196 rfl (okC (by decide)) (okC (by decide)) (by decide) rfl rfl ntC rfl rfl (λT=>?_);(repeat' (conv=>whnf);first|refine QC ?_|intro x hx hu|intro h|apply sS);conv=>whnf
 refine Qa QE (λx:Nat×List Nat=>low<=x.1/\x.1<=all/\x.2=(F x.1).take n) (fun|(i,l)=>fiA 200 low all n 25 R T i l) (λx=>all-x.1) (low,[]) ⟨zr _,hla,by rw[h0,qt]⟩ (Wk.en ⟨rr,rr,QB0 ..⟩) ?_;intro⟨i,l⟩ hi0;have hi1:=hi0.1;have hi2:=hi0.2.1;have hil:=hi0.2.2;dsimp only at hi1 hi2 hil;have hll:(vN l).length=l.length:=ze ..;have hfi:=hfl i;have hl2:l.length<=n/\l.length<=(F i).length:=by rw[hil,z7];omega
 have hst:n<=l.length\/¬i<all->l=(F all).take n:=λh=>by
  rcases h with h|h
  ·rw [hil,ht hi1 hi2 om]
  ·rw [hil,show i=all by omega]
 have hgo:l.length<n->l=F i:=λh=>by
  rw[hil,z7]at h;rw[hil,yd om]
 have hsu:=hs hi1;have hres:l=(F all).take n->AV.d (.fs 1 (vN l))=AV.d (.fs 1 (vN ((F all).take n))):=λh=>by rw[h]
 by_cases hia:i<all
 ·obtain ⟨r,hr⟩:=Q8 (l:=R) (k:=i) om;have hrd:R.getD i false=r:=by rw[zo,hr];rfl
  rw[hrd]at hsu;by_cases hln:l.length<n
  ·have hlF:=hgo hln;cases r with
   |true=>
    rw[if_pos rfl,xh]at hsu;(repeat' (conv=>whnf);first|refine AtA.eq (ldR hr rfl rfl) ?_|refine cI QSQ ?_|refine gOI ?_|intro x hx hu|intro h|apply sS);all_goals try omega
    exact⟨(i+1,l),⟨by omega,hia,by rw[hsu,<-hlF,yd om]⟩,by first|omega|(dsimp only;omega),Wk.en ⟨ai rfl (ai rfl (ai rfl (ai rfl (ai rfl (ai (QM om) trivial))))),rr,QB0 ..⟩⟩
   |false=>
    rw[if_neg (by simp)]at hsu;(repeat' (conv=>whnf);first|refine AtA.eq (ldR hr rfl rfl) ?_|refine cI QSQ ?_|refine gOI ?_|intro x hx hu|intro h|apply sS);all_goals try omega
    refine⟨(i+1,l++[i]),⟨by omega,hia,by rw[hsu,<-hlF,yd (by rw[zu,xm];omega)]⟩,by first|omega|(dsimp only;omega),Wk.en ⟨ai rfl (ai rfl (ai rfl (ai rfl (ai (QCe ?_) (ai (QM om) trivial))))),ai (Qo rfl (QJx ..)) rr,QB0 ..⟩⟩;show _=vN (l++[i]);unfold vN;rw[yh];rfl
  ·have hth:=hst (.inl om);(repeat' (conv=>whnf);first|refine QC ?_|intro x hx hu|intro h|apply sS);all_goals try omega
   conv=>whnf
   exact⟨⟨[(8,.d (.fs 1 (vN l)))],(0,.cells 25 ((R.map D.bl).map .d))::Qv 1 [0] T,5⟩,Wk.vwL (ai (Vw.ts' rfl) trivial) (ai (VwO.same _) (ai (VwO.same _) (ai (VwO.same _) trivial))) (QFh ..),hres hth,rr,rr⟩
 ·have hth:=hst (.inr hia);(repeat' (conv=>whnf);first|refine QC ?_|intro x hx hu|intro h|apply sS);all_goals try omega
  conv=>whnf
  exact⟨⟨[(8,.d (.fs 1 (vN l)))],(0,.cells 25 ((R.map D.bl).map .d))::Qv 1 [0] T,5⟩,Wk.vwL (ai (Vw.ts' rfl) trivial) (ai (VwO.same _) (ai (VwO.same _) (ai (VwO.same _) trivial))) (QFh ..),hres hth,rr,rr⟩
def fiS(f:Nat)(low all n:Nat)(E:D)(T:Nat->Nat)(i:Nat)(l:List Nat):S:=⟨[(0,.d (.it .i64 (low:Nat))),(1,.d (.it .i64 (all:Nat))),(2,.d (.it .i64 (n:Nat))),(3,.fn (.func f) [] [.ptr 0 0]),(9,.ts 1 (vN l) 4),(10,.d (.it .i64 (i:Nat)))],(0,.cells 1 [.d E])::(4,.tail 3 true)::Qv 1 [0] T,5⟩
theorem QLS(d:Option Dk)(hd:Zs d)(low all n:Nat)(ha:all<=24)(hn:n<=1000)(hla:low<=all):
  FnH Tryz.prog 196 [.d (.it .i64 (low:Nat)),.d (.it .i64 (all:Nat)),.d (.it .i64 (n:Nat)),.fn (.func 198) [] [.ptr 0 0]] [(0,.cells 1 [.d (QQ d)])] 1 [0] (.d (.fs 1 (vN ((FL (λj:Nat=>(QA (rdS d) (j:Nat)).u) low all).take n)))) [(0,.cells 1 [.d (QQ d)])] 1:=by
 have hs:=fun{i:Nat}=> @QCz (λj:Nat=>(QA (rdS d) (j:Nat)).u) low i;have ht:=fun{i:Nat}=> @QFg (λj:Nat=>(QA (rdS d) (j:Nat)).u) low i all n;have hfl:=QIm (λj:Nat=>(QA (rdS d) (j:Nat)).u) low;have h0:FL (λj:Nat=>(QA (rdS d) (j:Nat)).u) low low=[]:=by unfold FL;rw[Wg];rfl
 generalize FL (λj:Nat=>(QA (rdS d) (j:Nat)).u) low=F at*
 refine QV QUB λT=>?_;(repeat' (conv=>whnf);first|refine QC ?_|intro x hx hu|intro h|apply sS);conv=>whnf
 refine Qa QE (λx:Nat×List Nat=>low<=x.1/\x.1<=all/\x.2=(F x.1).take n) (fun|(i,l)=>fiS 198 low all n (QQ d) T i l) (λx=>all-x.1) (low,[]) ⟨zr _,hla,by rw[h0,qt]⟩ Wk.e ?_;intro⟨i,l⟩ hi0;have hi1:=hi0.1;have hi2:=hi0.2.1;have hil:=hi0.2.2;dsimp only at hi1 hi2 hil;have hll:(vN l).length=l.length:=ze ..;have hfi:=hfl i;have hl2:l.length<=n/\l.length<=(F i).length:=by rw[hil,z7];omega
 have hst:n<=l.length\/¬i<all->l=(F all).take n:=λh=>by
  rcases h with h|h
  ·rw [hil,ht hi1 hi2 om]
  ·rw [hil,show i=all by omega]
 have hgo:l.length<n->l=F i:=λh=>by
  rw[hil,z7]at h;rw[hil,yd om]
 have hsu:=hs hi1;have hres:l=(F all).take n->AV.d (.fs 1 (vN l))=AV.d (.fs 1 (vN ((F all).take n))):=λh=>by rw[h]
 by_cases hia:i<all
 ·have he:=XC d hd (i:Nat);generalize QA (rdS d) (i:Nat)=x at*
  obtain⟨r,xp,xn,xt⟩:=x;dsimp only at*
  replace he:FnC Tryz.prog 113 [.d (QQ d),.d (.it .i64 (i:Nat))] (.dg 4 [.bl r,.it .i64 xp,.st xn,.it .i64 xt]):=he;by_cases hln:l.length<n
  ·have hlF:=hgo hln;cases r with
   |true=>
    rw[if_pos rfl,xh]at hsu;(repeat' (conv=>whnf);first|refine cEk he ?_|refine cI QSP ?_|refine gOI ?_|intro x hx hu|intro h|apply sS);all_goals try omega
    exact⟨(i+1,l),⟨by omega,hia,by rw[hsu,<-hlF,yd om]⟩,by first|omega|(dsimp only;omega),Wk.en ⟨ai rfl (ai rfl (ai rfl (ai rfl (ai rfl (ai (QM om) trivial))))),rr,rfl⟩⟩
   |false=>
    rw[if_neg (by simp)]at hsu;(repeat' (conv=>whnf);first|refine cEk he ?_|refine cI QSP ?_|refine gOI ?_|intro x hx hu|intro h|apply sS);all_goals try omega
    refine⟨(i+1,l++[i]),⟨by omega,hia,by rw[hsu,<-hlF,yd (by rw[zu,xm];omega)]⟩,by first|omega|(dsimp only;omega),Wk.en ⟨ai rfl (ai rfl (ai rfl (ai rfl (ai (QCe ?_) (ai (QM om) trivial))))),rr,rfl⟩⟩;show _=vN (l++[i]);unfold vN;rw[yh];rfl
  ·have hth:=hst (.inl om);(repeat' (conv=>whnf);first|refine QC ?_|intro x hx hu|intro h|apply sS);all_goals try omega
   conv=>whnf
   exact⟨⟨[(8,.d (.fs 1 (vN l)))],(0,.cells 1 [.d (QQ d)])::Qv 1 [0] T,5⟩,Wk.vwL (ai (Vw.ts' rfl) trivial) (ai (VwO.same _) (ai (VwO.same _) (ai (VwO.same _) trivial))) (rfl),hres hth,rr,rr⟩
 ·have hth:=hst (.inr hia);(repeat' (conv=>whnf);first|refine QC ?_|intro x hx hu|intro h|apply sS);all_goals try omega
  conv=>whnf
  exact⟨⟨[(8,.d (.fs 1 (vN l)))],(0,.cells 1 [.d (QQ d)])::Qv 1 [0] T,5⟩,Wk.vwL (ai (Vw.ts' rfl) trivial) (ai (VwO.same _) (ai (VwO.same _) (ai (VwO.same _) trivial))) (rfl),hres hth,rr,rr⟩
theorem QFi(φ:Nat->Nat)(l:List D):(l.map AV.d).map (AV.ren1 φ)=l.map AV.d:=by rw[qc];rfl
theorem QHA(n:Nat):List.range' 0 n=List.range n:=List.range_eq_range'.symm
theorem QAs{α:Type}{p q:α->Bool}:∀ {l:List α},(∀x∈l,p x=q x)->l.find? p=l.find? q
 |[],_=>rfl
 |x::t,h=>by
  rw[Ws,Ws,h x zm,QAs λy hy=>h y (zi _ hy)]
theorem QQ7(f:Int->List UInt8):frI f=(FL (λj=>(iR f 24).getD j false) 0 16).head? :=by
 unfold FL frI;rw[List.head?_filter,jp,QHA];refine QAs λj hj=>?_;have h16:=yj.1 hj;have e:(iR f 24).getD j false=decide (Q1 f (j:Nat)):=by
  rw[QMx,zo,y8,jg h16];rfl
 show decide (¬Q1 f (j:Nat))= !((iR f 24).getD j false);rw[e];show decide (¬Q1 f (j:Nat))= !(decide (Q1 f (j:Nat)));by_cases h:Q1 f (j:Nat)
 ·rw [decide_eq_true h,decide_eq_false (λx=>x h)];rfl
 ·rw [decide_eq_false h,decide_eq_true h];rfl
theorem QQ8(f:Int->List UInt8):frE f=(FL (λj:Nat=>(QA f (j:Nat)).u) 0 24).head? :=by
 unfold FL frE;rw[List.head?_filter,jp,QHA];refine QAs λj hj=>?_;show decide ((QA f (j:Nat)).u=false)= !((QA f (j:Nat)).u);cases (QA f (j:Nat)).u<;>rfl
theorem QO4(d:Dk)(hd:Zs (some d)):FnC Tryz.prog 156 [.d (QQ (some d))] (QDP (frI (rdS (some d)))):=by
 have hi:=QEk (some d) hd;have hF:=QLQ (iR (rdS (some d)) 24) (QDa _ _) 0 16 1 (by decide) (by decide) (by decide);rw[QQ7];generalize FL (λj=>(iR (rdS (some d)) 24).getD j false) 0 16=l at*
 generalize iR (rdS (some d)) 24=J at*
 generalize QQ (some d)=E at*
 cases l with
 |nil=>
  replace hF:FnH Tryz.prog 196 [.d (.it .i64 0),.d (.it .i64 16),.d (.it .i64 1),.fn (.func 197) [] [.ptr 0 0]] [(0,.cells 16 ((J.map D.bl).map .d))] 1 [0] (.d (.fs 1 [])) [(0,.cells 16 ((J.map D.bl).map .d))] 1:=hF;refine QK QSF ?_;(repeat' (conv=>whnf);first|refine cEk hi ?_|refine CallI.byH hF [0] wu ⟨rfl,by decide,by with_unfolding_all exact rfl⟩ (ai (Qo rfl (by show []++_++[]=_;rw[y6,xh];exact(QFi _ _).symm)) trivial) rfl rfl ?_|refine cI QOX ?_|refine gOI ?_|intro x hx hu|intro h|apply sS);rfl
 |cons n t=>
  replace hF:FnH Tryz.prog 196 [.d (.it .i64 0),.d (.it .i64 16),.d (.it .i64 1),.fn (.func 197) [] [.ptr 0 0]] [(0,.cells 16 ((J.map D.bl).map .d))] 1 [0] (.d (.fs 1 [[.it .i64 (n:Nat)]])) [(0,.cells 16 ((J.map D.bl).map .d))] 1:=hF;refine QK QSF ?_;(repeat' (conv=>whnf);first|refine cEk hi ?_|refine CallI.byH hF [0] wu ⟨rfl,by decide,by with_unfolding_all exact rfl⟩ (ai (Qo rfl (by show []++_++[]=_;rw[y6,xh];exact(QFi _ _).symm)) trivial) rfl rfl ?_|refine cI QOX ?_|refine gOI ?_|intro x hx hu|intro h|apply sS);rfl
theorem QHB(d:Dk)(hd:Zs (some d)):FnC Tryz.prog 157 [.d (QQ (some d))] (QDP (frE (rdS (some d)))):=by
 have hF:=QLS (some d) hd 0 24 1 (by decide) (by decide) (by decide);rw[QQ8];generalize FL (λj:Nat=>(QA (rdS (some d)) (j:Nat)).u) 0 24=l at*
 generalize QQ (some d)=E at*
 cases l with
 |nil=>
  replace hF:FnH Tryz.prog 196 [.d (.it .i64 0),.d (.it .i64 24),.d (.it .i64 1),.fn (.func 198) [] [.ptr 0 0]] [(0,.cells 1 [.d E])] 1 [0] (.d (.fs 1 [])) [(0,.cells 1 [.d E])] 1:=hF;refine QK QSG ?_;(repeat' (conv=>whnf);first|refine CallI.h hF [0] ?_|refine cI QOX ?_|refine gOI ?_|intro x hx hu|intro h|apply sS);rfl
 |cons n t=>
  replace hF:FnH Tryz.prog 196 [.d (.it .i64 0),.d (.it .i64 24),.d (.it .i64 1),.fn (.func 198) [] [.ptr 0 0]] [(0,.cells 1 [.d E])] 1 [0] (.d (.fs 1 [[.it .i64 (n:Nat)]])) [(0,.cells 1 [.d E])] 1:=hF;refine QK QSG ?_;(repeat' (conv=>whnf);first|refine CallI.h hF [0] ?_|refine cI QOX ?_|refine gOI ?_|intro x hx hu|intro h|apply sS);rfl
theorem Zv{e:Int}(h:e≠0):runP bad d (e,[])=(d,e):=if_pos h
theorem Jq(bad:List Int)(d:Dk)(l:List Stp):runP bad d (0,l)=YT bad d l:=if_neg (by simp)
theorem QMz(h:frI f=some n):n<16:=by
 have:=wl h;exact yj.1 this
theorem QFj(h:frE f=some n):n<24:=by
 have:=wl h;exact yj.1 this
theorem QJ3(h:Fd bad d N)(p:List UInt8)(hp:p.length<=100000)(kind:Int):
  FnH Tryz.prog 102 [.ptr 5 0,.d (.st p),.d (.it .i64 kind)] (Qx b bad d) 6 [0,5] (.d (.it .i64 (runP bad d (mkP (rdS (some d)) p kind)).2)) (Qx b bad (runP bad d (mkP (rdS (some d)) p kind)).1) 6:=by
 have hP:=QDY d h.ok p hp;have hI:=QO4 d h.ok;have hK:=QHB d h.ok;have hfi:=λn=>QMz (f:=rdS (some d)) (n:=n);have hfe:=λn=>QFj (f:=rdS (some d)) (n:=n);unfold mkP mkQ;generalize ZH (rdS (some d)) p=a at*
 generalize frI (rdS (some d))=oi at*
 generalize frE (rdS (some d))=oe at*
 obtain⟨⟨fo,nm,k⟩,e⟩:=a;have hS:=Y7 ⟨fo,nm,k⟩;dsimp only;replace hP:FnC Tryz.prog 144 [.d (.fp 1 [QQ (some d)]),.d (.st p)] (.tup [.dg 3 [.it .i64 fo,.st nm,.it .i64 k],.d (.it .i64 e)]):=hP;replace hS:FnC Tryz.prog 146 [.dg 3 [.it .i64 fo,.st nm,.it .i64 k]] (.d (.bl (decide (0<=k)))):=hS;by_cases c1:e=0
 ·subst c1;rw[if_neg (by simp)];by_cases c2:0<=k
  ·rw [if_pos c2,Zv (by decide)];rw[decide_eq_true c2]at hS;refine QV QKz λT=>?_;(repeat' (conv=>whnf);first|refine cEk hS ?_|refine cI i50 ?_|refine rFk hP ?_|refine gOI ?_|intro x hx hu|intro h|apply sS);exact QO
  ·rw [if_neg c2];rw[decide_eq_false c2]at hS;cases oi with
   |none=>
    show FnH _ _ _ _ _ _ (.d (.it .i64 (runP bad d (2,[])).2)) (Qx b bad (runP bad d (2,[])).1) _;rw[Zv (by decide)];replace hI:FnC Tryz.prog 156 [.d (QQ (some d))] (.tup [.d (.it .i64 0),.d (.bl false)]):=hI;cases oe with
    |none=>
     replace hK:FnC Tryz.prog 157 [.d (QQ (some d))] (.tup [.d (.it .i64 0),.d (.bl false)]):=hK;refine QV QKz λT=>?_;(repeat' (conv=>whnf);first|refine cEk hS ?_|refine cI i50 ?_|refine rFk hP ?_|refine rFk hI ?_|refine rFk hK ?_|refine gOI ?_|intro x hx hu|intro h|apply sS);exact QO
    |some k=>
     replace hK:FnC Tryz.prog 157 [.d (QQ (some d))] (.tup [.d (.it .i64 (k:Nat)),.d (.bl true)]):=hK;refine QV QKz λT=>?_;(repeat' (conv=>whnf);first|refine cEk hS ?_|refine cI i50 ?_|refine rFk hP ?_|refine rFk hI ?_|refine rFk hK ?_|refine gOI ?_|intro x hx hu|intro h|apply sS);exact QO
   |some n=>
    replace hI:FnC Tryz.prog 156 [.d (QQ (some d))] (.tup [.d (.it .i64 (n:Nat)),.d (.bl true)]):=hI;cases oe with
    |none=>
     replace hK:FnC Tryz.prog 157 [.d (QQ (some d))] (.tup [.d (.it .i64 0),.d (.bl false)]):=hK;show FnH _ _ _ _ _ _ (.d (.it .i64 (runP bad d (2,[])).2)) (Qx b bad (runP bad d (2,[])).1) _;rw[Zv (by decide)];refine QV QKz λT=>?_;(repeat' (conv=>whnf);first|refine cEk hS ?_|refine cI i50 ?_|refine rFk hP ?_|refine rFk hI ?_|refine rFk hK ?_|refine gOI ?_|intro x hx hu|intro h|apply sS);exact QO
    |some q=>
     replace hK:FnC Tryz.prog 157 [.d (QQ (some d))] (.tup [.d (.it .i64 (q:Nat)),.d (.bl true)]):=hK;have hn:=hfi n rfl;have hq:=hfe q rfl;dsimp only;rw[Jq];have g1:=QFb [] (by simp) (n:Nat) om ⟨kind,0,0,0,0,0⟩ 2 (n:Nat);have g2:=QAM [.wr ⟨1+(n:Nat),Z3 ⟨kind,0,0,0,0,0⟩,2,(n:Nat),0⟩] (by simp) (q:Nat) om ⟨true,fo,nm,(n:Nat)⟩ fo;have g3:=QDW (b:=b) h [.wr ⟨1+(n:Nat),Z3 ⟨kind,0,0,0,0,0⟩,2,(n:Nat),0⟩,.wr ⟨17+(q:Nat),ZR ⟨true,fo,nm,(n:Nat)⟩,3,fo,0⟩] (λs hs=>by
      simp only[zj,yz,or_false]at hs;rcases hs with rfl|rfl
      ·exact ⟨QBF _,by show(0:Int)<=1+_;omega,by show(1:Int)+_<_;omega⟩
      ·exact ⟨QBG _,by show(0:Int)<=17+_;omega,by show(17:Int)+_<_;omega⟩) (by simp)
     generalize hw1:(⟨1+(n:Nat),Z3 ⟨kind,0,0,0,0,0⟩,2,(n:Nat),0⟩:Wr)=w1 at*
     generalize hw2:(⟨17+(q:Nat),ZR ⟨true,fo,nm,(n:Nat)⟩,3,fo,0⟩:Wr)=w2 at*
     rw[y6]at g1;refine QV QKz λT=>?_;(repeat' (conv=>whnf);first|refine cEk hS ?_|refine cI i50 ?_|refine rFk hP ?_|refine rFk hI ?_|refine rFk hK ?_|refine CallI.h g2 [12,13] ?_|refine CallI.hp g3 [0,1,2,3,4,5] ?_|((refine CallI.wk (Wk.nlTs 12 0 1 37 243 wu wu) ⟨_,_,_,_,_,_,rfl,rfl,rfl,rfl⟩ ?_);refine CallI.h g1 [12,13] ?_)|refine gOI ?_|intro x hx hu|intro h|apply sS);exact QO
 ·rw [if_pos c1,Zv c1];refine QV QKz λT=>?_;(repeat' (conv=>whnf);first|refine cEk hS ?_|refine cI i50 ?_|refine rFk hP ?_|refine gOI ?_|intro x hx hu|intro h|apply sS);exact QO
theorem QM0:Qt ZG=[.bl false,.it .i64 0,.st [],.it .i64 0]:=rfl
theorem QEl{p:List UInt8}: -1<=(ZH f p).1.k/\(ZH f p).1.k<24:=by
 unfold ZH QOx;split
 ·exact ⟨(by decide:(-1:Int)<=0),(by decide:(0:Int)<24)⟩
 ·split
  ·exact ⟨(by decide:(-1:Int)<=0),(by decide:(0:Int)<24)⟩
  ·split
   ·exact ⟨(by decide:(-1:Int)<=0),(by decide:(0:Int)<24)⟩
   ·show-1<=QLK _/\QLK _<24;cases h:XI f (ZA f (Z4 p).1).1 (Z4 p).2.1 with
    |none=>exact⟨by decide,by decide⟩
    |some k=>
     have:=yj.1 (wl h);exact⟨by show-1<=(k:Int);omega,by show(k:Int)<24;omega⟩
theorem QHC(h:RI x):0<=x.z/\x.z<=128:=by
 rcases h with h|h
 ·omega
 ·omega
theorem QBK(k:Int)(hk:0<=k/\k<24)(x:Ent)(f:Int):QFf (.wr ⟨17+k,ZR x,3,f,0⟩):=⟨QBG x,(by omega:0<=17+k),(by omega:17+k<65)⟩
theorem QHD(n:Int)(hn:0<=n/\n<16)(x:Ino)(k i:Int):QFf (.wr ⟨1+n,Z3 x,k,i,0⟩):=⟨QBF x,(by omega:0<=1+n),(by omega:1+n<65)⟩
theorem QDb(f:Int->List UInt8)(p:List UInt8):0<=(Xc f p).1/\(Xc f p).1<16:=by
 unfold Xc;split
 ·exact ⟨(by decide:(0:Int)<=0),(by decide:(0:Int)<16)⟩
 ·split
  ·exact ⟨(by decide:(0:Int)<=0),(by decide:(0:Int)<16)⟩
  ·rename_i h;dsimp only;have h:(QF f (ZA f p).1).k=1:=kr h;unfold QF at h;split at h
   ·assumption
   ·exact absurd h (by decide)
theorem QLT(h:Fd bad d N)(p:List UInt8)(hp:p.length<=100000):
  FnH Tryz.prog 73 [.ptr 5 0,.d (.st p)] (Qx b bad d) 6 [0,5] (.d (.it .i64 (runP bad d (QFe (rdS (some d)) p)).2)) (Qx b bad (runP bad d (QFe (rdS (some d)) p)).1) 6:=by
 have hP:=QMv d h.ok p hp;have hk:=QEl (f:=rdS (some d)) (p:=p);have hE:=XC (some d) h.ok (ZH (rdS (some d)) p).1.k;have hK:=QBJ d h.ok (QA (rdS (some d)) (ZH (rdS (some d)) p).1.k).t;have hL:=QOk (some d) h.ok (QA (rdS (some d)) (ZH (rdS (some d)) p).1.k).t;unfold QFe QO1;generalize ZH (rdS (some d)) p=a at*
 generalize hn:nms (rdS (some d)) (QA (rdS (some d)) a.1.k).t=ns at*
 generalize QA (rdS (some d)) a.1.k=x at*
 generalize (QF (rdS (some d)) x.t).k=kk at*
 obtain⟨⟨fo,nm,k⟩,e⟩:=a;obtain⟨xu,xp,xn,xt⟩:=x;dsimp only at*
 replace hE:FnC Tryz.prog 113 [.d (QQ (some d)),.d (.it .i64 k)] (.dg 4 [.bl xu,.it .i64 xp,.st xn,.it .i64 xt]):=hE;by_cases c1:e=0
 ·subst c1;rw[if_neg (by simp)];by_cases c2:k<0
  ·rw [if_pos c2,Zv (by decide)];have hP:FnC Tryz.prog 126 [.d (.fp 1 [QQ (some d)]),.d (.st p)] (.tup [.dg 3 [.it .i64 fo,.st nm,.it .i64 k],.d (.it .i64 4)]):=by
    have:=hP;unfold QLP at this;rw[if_pos ⟨rfl,c2⟩]at this;exact this
   refine QV i73 λT=>?_;(repeat' (conv=>whnf);first|refine cI i50 ?_|refine rFk hP ?_|refine QC ?_|intro x hx hu|intro h|apply sS);exact QO
  ·rw [if_neg c2];have hP:FnC Tryz.prog 126 [.d (.fp 1 [QQ (some d)]),.d (.st p)] (.tup [.dg 3 [.it .i64 fo,.st nm,.it .i64 k],.d (.it .i64 0)]):=by
    have:=hP;unfold QLP at this;rw[if_neg (λx=>c2 x.2)]at this;exact this
   have g2:=QAM [] (by simp) k om ZG fo;have g3:=QDW (b:=b) h [.wr ⟨17+k,ZR ZG,3,fo,0⟩] (λs hs=>by
    simp only[zj,yz,or_false]at hs;rw[hs];exact QBK k om _ _) (by simp)
   rw[QM0]at g2;generalize (⟨17+k,ZR ZG,3,fo,0⟩:Wr)=w1 at*
   rw[y6]at g2;by_cases c3:kk=2
   ·subst c3;cases ns with
    |nil=>
     rw[if_neg (by simp),Jq];replace hL:FnC Tryz.prog 128 [.d (QQ (some d)),.d (.it .i64 xt)] (.d (.fs 1 [])):=hL;refine QV i73 λT=>?_;(repeat' (conv=>whnf);first|refine cI i50 ?_|refine rFk hP ?_|refine rFk hE ?_|refine rFk hK ?_|refine CallI.byRL (ArF.fr _ _ _ _ (frD wu wu) (ArF.pl _ _ _ _ rfl .nil)) hL (λh0=>?_) (λoff cap hpos=>absurd hpos (by decide))|refine CallI.hp g3 [0,1,2,3,4,5] ?_|((refine CallI.wk (Wk.nlTs 12 0 1 37 243 wu wu) ⟨_,_,_,_,_,_,rfl,rfl,rfl,rfl⟩ ?_);refine CallI.h g2 [12,13] ?_)|refine QC ?_|intro x hx hu|intro h|apply sS);exact QO
    |cons n0 nt=>
     rw[if_pos ⟨rfl,by simp⟩,Zv (by decide)];refine QV i73 λT=>?_;(repeat' (conv=>whnf);first|refine cI i50 ?_|refine rFk hP ?_|refine rFk hE ?_|refine rFk hK ?_|refine CallI.byRL (ArF.fr _ _ _ _ (frD wu wu) (ArF.pl _ _ _ _ rfl .nil)) hL (λh0=>by cases h0) (λoff cap hpos=>?_)|refine QC ?_|intro x hx hu|intro h|apply sS);exact QO
   ·rw [if_neg (by simp[c3]),Jq];refine QV i73 λT=>?_;(repeat' (conv=>whnf);first|refine cI i50 ?_|refine rFk hP ?_|refine rFk hE ?_|refine rFk hK ?_|refine CallI.hp g3 [0,1,2,3,4,5] ?_|((refine CallI.wk (Wk.nlTs 12 0 1 37 243 wu wu) ⟨_,_,_,_,_,_,rfl,rfl,rfl,rfl⟩ ?_);refine CallI.h g2 [12,13] ?_)|refine QC ?_|intro x hx hu|intro h|apply sS);exact QO
 ·rw [if_pos c1,Zv c1];have hP:FnC Tryz.prog 126 [.d (.fp 1 [QQ (some d)]),.d (.st p)] (.tup [.dg 3 [.it .i64 fo,.st nm,.it .i64 k],.d (.it .i64 e)]):=by
   have:=hP;unfold QLP at this;rw[if_neg (λx=>c1 x.1)]at this;exact this
  refine QV i73 λT=>?_;(repeat' (conv=>whnf);first|refine cI i50 ?_|refine rFk hP ?_|refine QC ?_|intro x hx hu|intro h|apply sS);exact QO
theorem QM1(h:Fd bad d N)(p:List UInt8)(hp:p.length<=100000)(tq:Int):
  FnH Tryz.prog 90 [.ptr 5 0,.d (.st p),.d (.it .i64 tq)] (Qx b bad d) 6 [0,5] (.d (.it .i64 (runP bad d (QFc (rdS (some d)) p tq)).2)) (Qx b bad (runP bad d (QFc (rdS (some d)) p tq)).1) 6:=by
 have hP:=QDZ d h.ok p hp;have hn:=QDb (rdS (some d)) p;have hz:=QHC (QCy (rdS (some d)) p);unfold QFc QOz;generalize Xc (rdS (some d)) p=q at*
 obtain⟨n,⟨k,z,b0,b1,b2,b3⟩,e⟩:=q;dsimp only at*
 replace hP:FnC Tryz.prog 103 [.d (.fp 1 [QQ (some d)]),.d (.st p)] (.tup [.d (.it .i64 n),.dg 6 [.it .i64 k,.it .i64 z,.it .i64 b0,.it .i64 b1,.it .i64 b2,.it .i64 b3],.d (.it .i64 e)]):=hP;by_cases c1:e=0
 ·subst c1;rw[if_neg (by simp)];by_cases c2:tq<0\/z<tq
  ·rw [if_pos c2,Zv (by decide)];refine QV i90 λT=>?_;(repeat' (conv=>whnf);first|refine rFk hP ?_|refine QC ?_|intro x hx hu|intro h|apply sS);all_goals try omega
   all_goals exact QO
  ·rw [if_neg c2];by_cases c3:tq=z
   ·subst c3;rw[if_pos rfl,Jq];refine QV i90 λT=>?_;(repeat' (conv=>whnf);first|refine rFk hP ?_|refine QC ?_|intro x hx hu|intro h|apply sS);all_goals try omega
    all_goals exact QO
   ·rw [if_neg c3,Jq];have g3:=QDW (b:=b) h [.wr ⟨1+n,Z3 (trI ⟨k,z,b0,b1,b2,b3⟩ tq),2,n,0⟩] (λs hs=>by
     simp only[zj,yz,or_false]at hs;rw[hs];exact QHD n om _ _ _) (by simp)
    have g2:=QFb [] (by simp) n om (trI ⟨k,z,b0,b1,b2,b3⟩ tq) 2 n;have hnd:=JL tq om;generalize (⟨1+n,Z3 (trI ⟨k,z,b0,b1,b2,b3⟩ tq),2,n,0⟩:Wr)=w1 at*
    rw[y6]at g2;have c4:(tq+31)/32=0\/(tq+31)/32=1\/(tq+31)/32=2\/(tq+31)/32=3\/(tq+31)/32=4:=by omega
    rcases c4 with c4|c4|c4|c4|c4;all_goals (
     rw[c4]at hnd;unfold trI nd at g2;rw[c4]at g2;refine QV i90 λT=>?_;(repeat' (conv=>whnf);first|refine cEk hnd ?_|refine OpX.clearM QE rfl rfl rfl wu rfl wu rfl rfl wu wu (by decide) (by decide) ?_|refine rFk hP ?_|refine CallI.hp g3 [0,1,2,3,4,5] ?_|((refine CallI.wk (Wk.nlTs 11 0 1 37 243 wu wu) ⟨_,_,_,_,_,_,rfl,rfl,rfl,rfl⟩ ?_);refine CallI.h g2 [11,12] ?_)|refine gOI ?_|intro x hx hu|intro h|apply sS);all_goals try omega
     all_goals exact QO)
 ·rw [if_pos c1,Zv c1];refine QV i90 λT=>?_;(repeat' (conv=>whnf);first|refine rFk hP ?_|refine QC ?_|intro x hx hu|intro h|apply sS);all_goals try omega
  all_goals exact QO
theorem QO5(h:Fd bad d N)(a c:Plc)(x:Ent)(ha:0<=a.k/\a.k<24)(hc: -1<=c.k/\c.k<24):
  FnH Tryz.prog 147 [.ptr 5 0,.dg 3 (QJ2 a),.dg 3 (QJ2 c),.dg 4 (Qt x)] (Qx b bad d) 6 [0,5] (.d (.it .i64 (runP bad d (QIi (rdS (some d)) a c x)).2)) (Qx b bad (runP bad d (QIi (rdS (some d)) a c x)).1) 6:=by
 have hK:=QHB d h.ok;have hfe:=λn=>QFj (f:=rdS (some d)) (n:=n);unfold QIi;generalize frE (rdS (some d))=oe at*
 have hS:=Y7 c;have g1:=QAM [] (by simp) a.k om x c.fo;have g2:=fun(k:Int) (hk:0<=k/\k<24)=>QAM [] (by simp) k om x c.fo;obtain⟨af,an,ak⟩:=a;obtain⟨cf,cn,ck⟩:=c;obtain⟨xu,xp,xn,xt⟩:=x;dsimp only at*
 replace hS:FnC Tryz.prog 146 [.dg 3 [.it .i64 cf,.st cn,.it .i64 ck]] (.d (.bl (decide (0<=ck)))):=hS;show FnH _ _ [.ptr 5 0,.dg 3 [.it .i64 af,.st an,.it .i64 ak],.dg 3 [.it .i64 cf,.st cn,.it .i64 ck],.dg 4 [.bl xu,.it .i64 xp,.st xn,.it .i64 xt]] _ _ _ _ _ _;have go3:∀k:Int,0<=k/\k<24->FnH Tryz.prog 130 [.ptr 5 0,.d (.fs 37 [Y6 (.wr ⟨17+k,ZR ⟨xu,xp,xn,xt⟩,3,cf,0⟩),Y6 .bar,Y6 (.wr ⟨17+ak,ZR ZG,3,af,0⟩)])] (Qx b bad d) 6 [0,5] (.d (.it .i64 (YT bad d [.wr ⟨17+k,ZR ⟨xu,xp,xn,xt⟩,3,cf,0⟩,.bar,.wr ⟨17+ak,ZR ZG,3,af,0⟩]).2)) (Qx b bad (YT bad d [.wr ⟨17+k,ZR ⟨xu,xp,xn,xt⟩,3,cf,0⟩,.bar,.wr ⟨17+ak,ZR ZG,3,af,0⟩]).1) 6:=λk hk=>
  QDW (b:=b) h [.wr ⟨17+k,ZR ⟨xu,xp,xn,xt⟩,3,cf,0⟩,.bar,.wr ⟨17+ak,ZR ZG,3,af,0⟩] (λs hs=>by
   simp only[zj,yz,or_false]at hs;rcases hs with rfl|rfl|rfl
   ·exact QBK k hk _ _
   ·trivial
   ·exact QBK ak ha _ _) (by simp)
 by_cases c1:ck<0
 ·rw [decide_eq_false om]at hS;by_cases c2:af=cf
  ·subst c2;rw[if_pos ⟨c1,rfl⟩,Jq];have g3:=QDW (b:=b) h [.wr ⟨17+ak,ZR ⟨xu,xp,xn,xt⟩,3,af,0⟩] (λs hs=>by
    simp only[zj,yz,or_false]at hs;rw[hs];exact QBK ak ha _ _) (by simp)
   generalize (⟨17+ak,ZR ⟨xu,xp,xn,xt⟩,3,af,0⟩:Wr)=w1 at*
   rw[y6]at g1;refine QV QOU λT=>?_;(repeat' (conv=>whnf);first|refine cEk hS ?_|refine CallI.hp g3 [0,1,2,3,4,5] ?_|((refine CallI.wk (Wk.nlTs 12 0 1 37 243 wu wu) ⟨_,_,_,_,_,_,rfl,rfl,rfl,rfl⟩ ?_);refine CallI.h g1 [12,13] ?_)|refine gOI ?_|intro x hx hu|intro h|apply sS);exact QO
  ·rw [if_neg (λx=>c2 x.2),if_pos c1];cases oe with
   |none=>
    replace hK:FnC Tryz.prog 157 [.d (QQ (some d))] (.tup [.d (.it .i64 0),.d (.bl false)]):=hK;dsimp only;rw[Zv (by decide)];refine QV QOU λT=>?_;(repeat' (conv=>whnf);first|refine cEk hS ?_|refine rFk hK ?_|refine gOI ?_|intro x hx hu|intro h|apply sS);exact QO
   |some q=>
    replace hK:FnC Tryz.prog 157 [.d (QQ (some d))] (.tup [.d (.it .i64 (q:Nat)),.d (.bl true)]):=hK;have hq:=hfe q rfl;dsimp only;rw[Jq];have g3:=go3 (q:Nat) ⟨by omega,by omega⟩;have g2:=g2 (q:Nat) ⟨by omega,by omega⟩;generalize (⟨17+(q:Nat),ZR ⟨xu,xp,xn,xt⟩,3,cf,0⟩:Wr)=w1 at*
    rw[y6]at g2;have g4:=QJz [.wr w1] (by simp);have g5:=QAM [.wr w1,.bar] (by simp) ak om ZG af;rw[QM0]at g5;generalize (⟨17+ak,ZR ZG,3,af,0⟩:Wr)=w2 at*
    refine QV QOU λT=>?_;(repeat' (conv=>whnf);first|refine cEk hS ?_|refine rFk hK ?_|refine CallI.hp g3 [0,1,2,3,4,5] ?_|refine CallI.h g4 [12,13] ?_|refine CallI.h g5 [12,13] ?_|((refine CallI.wk (Wk.nlTs 12 0 1 37 243 wu wu) ⟨_,_,_,_,_,_,rfl,rfl,rfl,rfl⟩ ?_);refine CallI.h g2 [12,13] ?_)|refine gOI ?_|intro x hx hu|intro h|apply sS);exact QO
 ·rw [decide_eq_true om]at hS;rw[if_neg (λx=>c1 x.1),if_neg c1];dsimp only;rw[Jq,show((ck.toNat:Nat):Int)=ck by omega];have g3:=go3 ck om;have g2:=g2 ck om;generalize (⟨17+ck,ZR ⟨xu,xp,xn,xt⟩,3,cf,0⟩:Wr)=w1 at*
  rw[y6]at g2;have g4:=QJz [.wr w1] (by simp);have g5:=QAM [.wr w1,.bar] (by simp) ak om ZG af;rw[QM0]at g5;generalize (⟨17+ak,ZR ZG,3,af,0⟩:Wr)=w2 at*
  refine QV QOU λT=>?_;(repeat' (conv=>whnf);first|refine cEk hS ?_|refine CallI.hp g3 [0,1,2,3,4,5] ?_|refine CallI.h g4 [12,13] ?_|refine CallI.h g5 [12,13] ?_|((refine CallI.wk (Wk.nlTs 12 0 1 37 243 wu wu) ⟨_,_,_,_,_,_,rfl,rfl,rfl,rfl⟩ ?_);refine CallI.h g2 [12,13] ?_)|refine gOI ?_|intro x hx hu|intro h|apply sS);exact QO
theorem QQ9(p q:List UInt8)(hp:p.length<=100000)(hq:q.length<=100000):FnC Tryz.prog 143 [.d (.st p),.d (.st q)] (.d (.it .i64 (if(Z4 p).2.2≠0 then(Z4 p).2.2 else(Z4 q).2.2))):=by
 have h1:=QIZ p hp;have h2:=QIZ q hq;rw[QMq]at h1 h2;generalize Z4 p=u at*
 generalize Z4 q=v at*
 obtain⟨u1,u2,u3⟩:=u;obtain⟨v1,v2,v3⟩:=v;dsimp only at*
 replace h1:FnC Tryz.prog 181 [.d (.st p)] (.tup [.d (.st u1),.d (.st u2),.d (.it .i64 u3)]):=h1;replace h2:FnC Tryz.prog 181 [.d (.st q)] (.tup [.d (.st v1),.d (.st v2),.d (.it .i64 v3)]):=h2;by_cases c1:u3=0
 ·subst c1;rw[if_neg (by simp)];by_cases c2:v3=0
  ·subst c2;refine QK QQY ?_;(repeat' (conv=>whnf);first|refine cEk h1 ?_|refine cEk h2 ?_|refine cI QQb ?_|with_reducible refine Q0.unroll QE 3 ?_|refine gOI ?_|intro x hx hu|intro h|apply sS);rfl
  ·refine QK QQY ?_;(repeat' (conv=>whnf);first|refine cEk h1 ?_|refine cEk h2 ?_|refine cI QQb ?_|with_reducible refine Q0.unroll QE 3 ?_|refine gOI ?_|intro x hx hu|intro h|apply sS);rfl
 ·rw [if_pos c1];refine QK QQY ?_;(repeat' (conv=>whnf);first|refine cEk h1 ?_|refine cEk h2 ?_|refine cI QQb ?_|with_reducible refine Q0.unroll QE 3 ?_|refine gOI ?_|intro x hx hu|intro h|apply sS);rfl
theorem QM2(a b:List (List UInt8))(ha:a.length<=100000):FnC Tryz.prog 227 [.d (.fs 1 (a.map stL)),.d (.fs 1 (b.map stL))] (.d (.bl (decide (a=b)))):=by
 have hla:(a.map stL).length=a.length:=ze ..;have hlb:(b.map stL).length=b.length:=ze ..;refine QK QUM ?_;by_cases he:a.length=b.length
 ·(repeat' (conv=>whnf);first|refine QC ?_|intro x hx hu|intro h|apply sS);conv=>whnf
  refine Qu QE (λk:Nat=>k<=a.length/\a.take k=b.take k) (λk=>⟨[(0,.d (.fs 1 (a.map stL))),(1,.d (.fs 1 (b.map stL))),(12,.d (.it .i64 (a.length:Nat))),(13,.d (.it .i64 (k:Nat)))],[],0⟩) (λk=>a.length-k) 0 ⟨yc _,rfl⟩ ⟨ai rfl (ai rfl (ai (QM om) rr)),trivial,rfl⟩ ?_;intro k ⟨k1,k2⟩;rcases yr k a.length with hkl|hkl
  ·obtain ⟨x,hx⟩:=Q8 hkl;obtain⟨y,hy⟩:=Q8 (l:=b) (k:=k) om;have h1:x=y->a.take (k+1)=b.take (k+1):=λh=>by rw[ZF hx,ZF hy,k2,h]
   have h2:¬x=y->decide (a=b)=false:=λh=>decide_eq_false λhab=>h (by
    rw[hab,hy]at hx;exact(za hx).symm)
   (repeat' (conv=>whnf);first|refine QC ?_|intro x hx hu|intro h|apply sS);all_goals first
    |(refine again (k+1) ⟨by omega,h1 (by assumption)⟩ (by first|omega|(dsimp only;omega)) (ai rfl (ai rfl (ai rfl (ai (QM om) trivial)))) trivial rfl;done)
    |exact Xo (h2 (by assumption)).symm
    |exact Xo (h2 (λh=>by simp_all)).symm
  ·have h3:decide (a=b)=true:=decide_eq_true (by
    have e1:a.take k=a:=yd om;have e2:b.take k=b:=yd om;rw[<-e1,k2,e2])
   (repeat' (conv=>whnf);first|refine QC ?_|intro x hx hu|intro h|apply sS);exact Xo h3.symm
 ·(repeat' (conv=>whnf);first|refine QC ?_|intro x hx hu|intro h|apply sS);exact Xo (decide_eq_false λhab=>he (by rw[hab])).symm
theorem QO6{p q:List UInt8}(h:¬((QI p).2=0/\(QI q).2=0/\(QI q).1.length<=(QI p).1.length)):QG5 p q=false:=decide_eq_false λx=>h ⟨x.1,x.2.1,x.2.2.1⟩
theorem QM3(p q:List UInt8)(hp:p.length<=100000)(hq:q.length<=100000):FnC Tryz.prog 183 [.d (.st p),.d (.st q)] (.d (.bl (QG5 p q))):=by
 have h1:=Z2 p hp;have h2:=Z2 q hq;have hl1:=Yk p;have hl2:=Yk q;have hno:= @QO6 p q;have hE:=QM2 ((QI p).1.take (QI q).1.length) (QI q).1 (by rw[z7];omega);have hyes:(QI p).2=0->(QI q).2=0->(QI q).1.length<=(QI p).1.length->QG5 p q=decide ((QI p).1.take (QI q).1.length=(QI q).1):=λa b c=>by
  unfold QG5;simp only[a,b,c,true_and]
 generalize QG5 p q=r at*
 generalize QI p=u at*
 generalize QI q=v at*
 obtain⟨l1,e1⟩:=u;obtain⟨l2,e2⟩:=v;dsimp only at*
 have hla:(l1.map stL).length=l1.length:=ze ..;have hlb:(l2.map stL).length=l2.length:=ze ..;replace h1:FnC Tryz.prog 53 [.d (.st p)] (.tup [.d (.fs 1 (l1.map stL)),.d (.it .i64 e1)]):=h1;replace h2:FnC Tryz.prog 53 [.d (.st q)] (.tup [.d (.fs 1 (l2.map stL)),.d (.it .i64 e2)]):=h2;by_cases c:e1=0/\e2=0/\l2.length<=l1.length
 ·have hr:=hyes c.1 c.2.1 c.2.2;have c1:=c.1;have c2:=c.2.1;have c3:=c.2.2;have ht:(l1.take l2.length).map stL=(l1.map stL).take (((l2.map stL).length:Nat):Int).toNat:=by
   rw[vk,hlb];rfl
  rw[ht]at hE;refine QK QSM ?_;(repeat' (conv=>whnf);first|refine cEk h1 ?_|refine cEk h2 ?_|refine cEk hE ?_|refine QC ?_|intro x hx hu|intro h|apply sS);all_goals try omega
  all_goals exact Xo hr.symm
 ·have hr:=hno c;refine QK QSM ?_;(repeat' (conv=>whnf);first|refine cEk h1 ?_|refine cEk h2 ?_|refine QC ?_|intro x hx hu|intro h|apply sS);all_goals try omega
  all_goals exact Xo hr.symm
theorem QLU(frm tq:List UInt8)(hp:frm.length<=100000)(hq:tq.length<=100000):FnC Tryz.prog 145 [.d (.st tq),.d (.st frm)] (.d (.bl (QLM frm tq))):=by
 have h1:=Z2 frm hp;have h2:=Z2 tq hq;have h3:=QM3 tq frm hq hp;have hl1:=Yk frm;have hl2:=Yk tq;unfold QLM;generalize QG5 tq frm=r at*
 generalize QI frm=u at*
 generalize QI tq=v at*
 obtain⟨l1,e1⟩:=u;obtain⟨l2,e2⟩:=v;dsimp only at*
 have hla:(l1.map stL).length=l1.length:=ze ..;have hlb:(l2.map stL).length=l2.length:=ze ..;replace h1:FnC Tryz.prog 53 [.d (.st frm)] (.tup [.d (.fs 1 (l1.map stL)),.d (.it .i64 e1)]):=h1;replace h2:FnC Tryz.prog 53 [.d (.st tq)] (.tup [.d (.fs 1 (l2.map stL)),.d (.it .i64 e2)]):=h2;cases r with
 |true=>
  refine QK QSD ?_;(repeat' (conv=>whnf);first|refine cEk h1 ?_|refine cEk h2 ?_|refine cEk h3 ?_|refine QC ?_|intro x hx hu|intro h|apply sS);rfl
 |false=>
  have hb:decide (((l2.map stL).length:Int)>((l1.map stL).length:Int))=(false||decide (l1.length<l2.length)):=by
   rw[hla,hlb,jc,wj,decide_eq_true_eq,decide_eq_true_eq];omega
  refine QK QSD ?_;(repeat' (conv=>whnf);first|refine cEk h1 ?_|refine cEk h2 ?_|refine cEk h3 ?_|refine QC ?_|intro x hx hu|intro h|apply sS);exact Xo hb
def tgB(tags:List (Int×Int))(w:Wr):Bool:=decide ((w.k,w.i)∈tags)
def QM4(tags:List (Int×Int))(r:Option Int)(w:Wr):Option Int:=
 if tgB tags w=true then(match r with|none=>some w.e|some x=>some (max x w.e))else r
def YF(tags:List (Int×Int))(l:List Wr):Option Int:=l.foldl (QM4 tags) none
def QBL(tags:List (Int×Int))(top:Option Int)(w:Wr):Bool:=tgB tags w||match top with|none=>false|some x=>decide (w.e<x)
def Xd(m:Wr->Bool):List Wr->List Wr
 |[]=>[]
 |w::t=>if m w=true\/t.any (λv=>m v&&decide (v.a=w.a))=true then Xd m t else w::Xd m t
def evS(tags:List (Int×Int)):List D:=[.it .i64 2]++Q6 w0++[.fs 2 (tags.map Qe)]
def QDc(tags:List (Int×Int))(d:Dk):Dk:=⟨d.nx+1,Qg d.safe (d.wait.filter (QBL tags (YF tags d.wait))),Xd (QBL tags (YF tags d.wait)) d.wait,d.log++[evS tags],d.ep⟩
theorem QEm(m:List (List UInt8))(v w:Wr)(h:v.a≠w.a):YY (YY m v) w=YY (YY m w) v:=by
 unfold YY;by_cases hv:0<=v.a/\v.a<m.length
 ·by_cases hw:0<=w.a/\w.a<m.length
  ·rw [if_pos hv,if_pos hw,if_pos (by rw[wp];exact hw),if_pos (by rw[wp];exact hv),List.set_comm _ _ om]
  ·rw [if_pos hv,if_neg hw,if_neg (by rw[wp];exact hw),if_pos hv]
 ·by_cases hw:0<=w.a/\w.a<m.length
  ·rw [if_neg hv,if_pos hw,if_neg (by rw[wp];exact hv)]
  ·rw [if_neg hv,if_neg hw,if_neg hv]
theorem QLV(m:List (List UInt8))(v w:Wr)(h:v.a=w.a):YY (YY m v) w=YY m w:=by
 unfold YY;rw[h];by_cases hw:0<=w.a/\w.a<m.length
 ·rw [if_pos hw,if_pos (by rw[wp];exact hw),if_pos hw,List.set_set]
 ·rw [if_neg hw,if_neg hw]
theorem Ze(m:List (List UInt8))(w:Wr)(t:List Wr):Qg m (w::t)=Qg (YY m w) t:=rfl
theorem QDd:∀(t:List Wr) (m:List (List UInt8)) (w:Wr),(∀v∈t,v.a≠w.a)->YY (Qg m t) w=Qg (YY m w) t
 |[],m,w,_=>rfl
 |v::t,m,w,h=>by
  rw[Ze,Ze,QDd t _ w λx hx=>h x (zi _ hx),QEm m v w (h v zm)]
theorem QDe:∀(t:List Wr) (m:List (List UInt8)) (w:Wr),(∃v∈t,v.a=w.a)->Qg (YY m w) t=Qg m t
 |[],m,w,h=>by obtain⟨v,hv,_⟩:=h;cases hv
 |v::t,m,w,h=>by
  rw[Ze,Ze];by_cases hv:v.a=w.a
  ·rw [QLV m w v hv.symm]
  ·rw [QEm m w v (λe=>hv e.symm)];refine QDe t _ w ?_;obtain⟨x,hx,hxa⟩:=h;rcases zj.1 hx with rfl|hx
   ·exact absurd hxa hv
   ·exact ⟨x,hx,hxa⟩
theorem QBM(m:Wr->Bool):∀(t:List Wr) (s:List (List UInt8)),Qg (Qg s (t.filter m)) (Xd m t)=Qg s t
 |[],s=>rfl
 |w::t,s=>by
  by_cases hm:m w=true
  ·rw [Wn hm];unfold Xd;rw[if_pos (.inl hm),Ze,Ze];exact QBM m t _
  ·rw [Wo hm];unfold Xd;by_cases ha:t.any (λv=>m v&&decide (v.a=w.a))=true
   ·rw [if_pos (.inr ha),QBM m t s,Ze];refine(QDe t s w ?_).symm;obtain⟨v,hv,h2⟩:=vz.1 ha;rw[zf]at h2;exact⟨v,hv,of_decide_eq_true h2.2⟩
   ·rw [if_neg (by rintro(h|h);exact hm h;exact ha h),Ze,QDd,QBM m t,Ze];intro v hv hva;obtain⟨h1,h2⟩:=xj.1 hv;exact ha (vz.2 ⟨v,h1,by rw[h2,xl];exact decide_eq_true hva⟩)
theorem QRA(tags:List (Int×Int))(d:Dk)(n:Int)(h0:0<=n):rdS (some (QDc tags d)) n=rdS (some d) n:=by
 rw[QIk _ _ h0,QIk _ _ h0];show imS (Qg (Qg d.safe _) (Xd _ d.wait)) n=_;rw[QBM]
theorem QB1(m:Wr->Bool):∀(t:List Wr),∀w∈Xd m t,w∈t/\m w=false
 |[],w,h=>by cases h
 |v::t,w,h=>by
  unfold Xd at h;split at h
  ·obtain ⟨h1,h2⟩:=QB1 m t w h;exact⟨zi _ h1,h2⟩
  ·rename_i hc;rcases zj.1 h with rfl|h
   ·refine ⟨zm,?_⟩;cases hm:m w with
    |false=>rfl
    |true=>exact absurd (.inl hm) hc
   ·obtain ⟨h1,h2⟩:=QB1 m t w h;exact⟨zi _ h1,h2⟩
theorem QO7(a b:Int×Int):XW (Qe a) (Qe b)=decide (a=b):=by
 obtain⟨a,c⟩:=a;obtain⟨b,d⟩:=b;show((a==b)&&((c==d)&&true))=_;rw[wx,wj,zf,beq_iff_eq,beq_iff_eq,decide_eq_true_eq,xf]
def mpT(l:List (Int×Int)):List (List D×D):=l.foldl (λm t=>QAI m (Qe t) (.it .i64 1)) []
theorem QHE(l:List (Int×Int))(t:Int×Int):mpT (l++[t])=QAI (mpT l) (Qe t) (.it .i64 1):=by unfold mpT;rw[vr];rfl
theorem QJ4:∀(m:List (List D×D)) (x t:Int×Int) (v:D),ZI m (Qe x)=none->ZI (m++[(Qe x,v)]) (Qe t)=if x=t then some v else ZI m (Qe t)
 |[],x,t,v,_=>by
  show(bif XW (Qe x) (Qe t)then some v else none)=_;rw[QO7];by_cases h:x=t
  ·rw [if_pos h,decide_eq_true h];rfl
  ·rw [if_neg h,decide_eq_false h];rfl
 |(k,u)::m,x,t,v,h=>by
  simp only[ZI]at h;cases hk:XW k (Qe x)with
  |true=>rw[hk,cond_true]at h;cases h
  |false=>
   rw[hk,cond_false]at h;have ih:=QJ4 m x t v h;show(bif XW k (Qe t)then some u else ZI (m++_) (Qe t))=if x=t then some v else(bif XW k (Qe t)then some u else ZI m (Qe t))
   by_cases e:x=t
   ·subst e;rw[hk,cond_false,ih];rfl
   ·rw [ih,if_neg e,if_neg e]
theorem QJ5:∀(m:List (List D×D)) (_:∀p∈m,∃t,p.1=Qe t) (x t:Int×Int) (v w:D),ZI m (Qe x)=some w->ZI (QJd m (QAH m (Qe x)) v) (Qe t)=if x=t then some v else ZI m (Qe t)
 |[],_,x,t,v,w,h=>by cases h
 |(k,u)::m,hm,x,t,v,w,h=>by
  obtain⟨y,hy⟩:=hm _ zm;have hy:k=Qe y:=hy;subst hy;simp only[ZI]at h;simp only[QAH];rw[QO7]at h⊢;by_cases e:y=x
  ·subst e;rw[decide_eq_true rfl,cond_true];show(bif XW (Qe y) (Qe t)then some v else ZI m (Qe t))=if y=t then some v else(bif XW (Qe y) (Qe t)then some u else ZI m (Qe t))
   rw[QO7];by_cases ht:y=t
   ·rw [if_pos ht,decide_eq_true ht];rfl
   ·rw [if_neg ht,decide_eq_false ht];rfl
  ·rw [decide_eq_false e,cond_false]at h⊢;have ih:=QJ5 m (λp hp=>hm p (zi _ hp)) x t v w h;show(bif XW (Qe y) (Qe t)then some u else ZI (QJd m _ v) (Qe t))=if x=t then some v else(bif XW (Qe y) (Qe t)then some u else ZI m (Qe t))
   rw[QO7,ih];by_cases ht:y=t
   ·rw [decide_eq_true ht,cond_true,cond_true,if_neg (λh=>e (ht.trans h.symm))]
   ·rw [decide_eq_false ht];rfl
theorem QEn:∀(m:List (List D×D)) (i:Nat) (v:D),(∀p∈m,∃t,p.1=Qe t)->∀p∈QJd m i v,∃t,p.1=Qe t
 |[],_,_,_,p,hp=>by cases hp
 |(k,u)::m,0,v,hm,p,hp=>by
  rcases zj.1 hp with rfl|hp
  ·exact hm (k,u) zm
  ·exact hm p (zi _ hp)
 |q::m,i+1,v,hm,p,hp=>by
  rcases zj.1 hp with rfl|hp
  ·exact hm _ zm
  ·exact QEn m i v (λp hp=>hm p (zi _ hp)) p hp
theorem QO8(l:List (Int×Int)):(∀p∈mpT l,∃t,p.1=Qe t)/\∀t,ZI (mpT l) (Qe t)=if t∈l then some (.it .i64 1)else none:=by
 have key:∀k,k<=l.length->(∀p∈mpT (l.take k),∃t,p.1=Qe t)/\∀t,ZI (mpT (l.take k)) (Qe t)=if t∈l.take k then some (.it .i64 1)else none:=by
  intro k;induction k with
  |zero=>intro _;exact⟨λp hp=>(by cases hp),λt=>rfl⟩
  |succ k ih=>
   intro hk;obtain⟨x,hx⟩:=Q8 (show k<l.length by omega);obtain⟨h1,h2⟩:=ih om;rw[ZF hx,QHE];have hx2:=h2 x;have hmem:∀t,t∈l.take k++[x]↔t∈l.take k\/t=x:=λt=>by rw[yi,xg]
   unfold QAI;by_cases hi:x∈l.take k
   ·rw [if_pos hi]at hx2;rw[hx2];refine⟨QEn _ _ _ h1,λt=>?_⟩;dsimp only;rw[QJ5 _ h1 x t _ _ hx2,h2];by_cases e:x=t
    ·rw [if_pos e,if_pos ((hmem t).2 (.inr e.symm))]
    ·rw [if_neg e];by_cases ht:t∈l.take k
     ·rw [if_pos ht,if_pos ((hmem t).2 (.inl ht))]
     ·rw [if_neg ht,if_neg (λh=>((hmem t).1 h).elim ht (λh=>e h.symm))]
   ·rw [if_neg hi]at hx2;rw[hx2];refine⟨λp hp=>?_,λt=>?_⟩
    ·rcases yi.1 hp with hp|hp
     ·exact h1 p hp
     ·rw [xg.1 hp];exact⟨x,rfl⟩
    dsimp only;rw[QJ4 _ x t _ hx2,h2];by_cases e:x=t
    ·rw [if_pos e,if_pos ((hmem t).2 (.inr e.symm))]
    ·rw [if_neg e];by_cases ht:t∈l.take k
     ·rw [if_pos ht,if_pos ((hmem t).2 (.inl ht))]
     ·rw [if_neg ht,if_neg (λh=>((hmem t).1 h).elim ht (λh=>e h.symm))]
 have:=key l.length (zr _)
 rwa [vn]at this
theorem QJ6(l:List (Int×Int))(w:Wr):(match ZI (mpT l) [.it .i64 w.k,.it .i64 w.i]with|some v=>v|none=> .it .i64 0)=D.it .i64 (if tgB l w=true then 1 else 0):=by
 have h:=(QO8 l).2 (w.k,w.i);have h:ZI (mpT l) [.it .i64 w.k,.it .i64 w.i]=_:=h;rw[h];by_cases hm:(w.k,w.i)∈l
 ·rw [if_pos hm,if_pos (show tgB l w=true from decide_eq_true hm)]
 ·rw [if_neg hm,if_neg (show¬tgB l w=true from λh=>hm (of_decide_eq_true h))]
def JM(m:Wr->Bool):List Wr->Nat->List (List D×D)->List (List D×D)
 |[],_,M=>M
 |w::t,i,M=>JM m t (i+1) (if m w=true then Jw M [.it .i64 w.a] (.it .i64 (i:Nat))else M)
theorem QB2(m:Wr->Bool)(w:Wr):∀(t:List Wr) (i:Nat) (M:List (List D×D)),JM m (t++[w]) i M=if m w=true then Jw (JM m t i M) [.it .i64 w.a] (.it .i64 ((i+t.length:Nat):Int))else JM m t i M
 |[],i,M=>rfl
 |x::t,i,M=>by
  show JM m (t++[w]) (i+1) _=_;rw[QB2 m w t,yo,show i+1+t.length=i+(t.length+1) by omega];rfl
theorem QHF:∀(m:List (List D×D)) (_:∀p∈m,∃a,p.1=[D.it .i64 a]) (x n:Int) (v:D),ZI (Jw m [.it .i64 x] v) [.it .i64 n]=if x=n then some v else ZI m [.it .i64 n]
 |[],_,x,n,v=>by
  show(bif XW [.it .i64 x] [.it .i64 n]then some v else none)=_;rw[QG0];by_cases h:x=n
  ·rw [if_pos h,decide_eq_true h];rfl
  ·rw [if_neg h,decide_eq_false h];rfl
 |(k,u)::t,hm,x,n,v=>by
  obtain⟨a,hka⟩:=hm _ zm;have hka:k=[D.it .i64 a]:=hka;subst hka;have ih:=QHF t (λp hp=>hm p (zi _ hp)) x n v;simp only[Jw,ZI,QG0];by_cases ha:a=x
  ·subst ha;rw[decide_eq_true rfl,cond_true];simp only[ZI,QG0];by_cases h:a=n
   ·rw [if_pos h,decide_eq_true h];rfl
   ·rw [if_neg h,decide_eq_false h];rfl
  ·rw [decide_eq_false ha,cond_false];simp only[ZI,QG0];by_cases han:a=n
   ·rw [decide_eq_true han,cond_true,cond_true,if_neg (λe=>ha om)]
   ·rw [decide_eq_false han,cond_false,cond_false];exact ih
def ovB(m:Wr->Bool)(t:List Wr)(w:Wr):Bool:=t.any λv=>m v&&decide (v.a=w.a)
theorem QM5(m:Wr->Bool)(l:List Wr):(∀p∈JM m l 0 [],∃a,p.1=[D.it .i64 a])/\∀a:Int,(ZI (JM m l 0 []) [.it .i64 a]=none/\∀j:Nat,∀w,l[j]? =some w->m w=true->w.a≠a)\/(∃k:Nat,∃v,ZI (JM m l 0 []) [.it .i64 a]=some (.it .i64 (k:Nat))/\l[k]? =some v/\m v=true/\v.a=a/\∀j:Nat,k<j->∀w,l[j]? =some w->m w=true->w.a≠a):=by
 have key:∀k,k<=l.length->(∀p∈JM m (l.take k) 0 [],∃a,p.1=[D.it .i64 a])/\∀a:Int,(ZI (JM m (l.take k) 0 []) [.it .i64 a]=none/\∀j:Nat,j<k->∀w,l[j]? =some w->m w=true->w.a≠a)\/(∃i:Nat,∃v,i<k/\ZI (JM m (l.take k) 0 []) [.it .i64 a]=some (.it .i64 (i:Nat))/\l[i]? =some v/\m v=true/\v.a=a/\∀j:Nat,i<j->j<k->∀w,l[j]? =some w->m w=true->w.a≠a):=by
  intro k;induction k with
  |zero=>intro _;exact⟨λp hp=>(by cases hp),λa=> .inl ⟨rfl,λj hj=>by omega⟩⟩
  |succ k ih=>
   intro hk;obtain⟨x,hx⟩:=Q8 (show k<l.length by omega);obtain⟨h1,h2⟩:=ih om;rw[ZF hx,QB2,z7,uo (show k<=l.length by omega),y5];by_cases hm:m x=true
   ·rw [if_pos hm];refine⟨QBy _ h1 _ _,λa=>?_⟩;rw[QHF _ h1];by_cases e:x.a=a
    ·rw [if_pos e];exact .inr ⟨k,x,by omega,rfl,hx,hm,e,λj h3 h4=>by omega⟩
    ·rw [if_neg e];rcases h2 a with⟨g1,g2⟩|⟨i,v,g0,g1,g2,g3,g4,g5⟩
     ·refine .inl ⟨g1,λj hj w hw hmw=>?_⟩;by_cases hjk:j=k
      ·subst hjk;rw[hx]at hw;obtain rfl:=za hw;exact e
      ·exact g2 j om w hw hmw
     ·refine .inr ⟨i,v,by omega,g1,g2,g3,g4,λj h3 h4 w hw hmw=>?_⟩;by_cases hjk:j=k
      ·subst hjk;rw[hx]at hw;obtain rfl:=za hw;exact e
      ·exact g5 j h3 om w hw hmw
   ·rw [if_neg hm];refine⟨h1,λa=>?_⟩;rcases h2 a with⟨g1,g2⟩|⟨i,v,g0,g1,g2,g3,g4,g5⟩
    ·refine .inl ⟨g1,λj hj w hw hmw=>?_⟩;by_cases hjk:j=k
     ·subst hjk;rw[hx]at hw;obtain rfl:=za hw;exact absurd hmw hm
     ·exact g2 j om w hw hmw
    ·refine .inr ⟨i,v,by omega,g1,g2,g3,g4,λj h3 h4 w hw hmw=>?_⟩;by_cases hjk:j=k
     ·subst hjk;rw[hx]at hw;obtain rfl:=za hw;exact absurd hmw hm
     ·exact g5 j h3 om w hw hmw
 have:=key l.length (zr _);rw[vn]at this;refine⟨this.1,λa=>?_⟩;rcases this.2 a with⟨g1,g2⟩|⟨i,v,g0,g1,g2,g3,g4,g5⟩
 ·exact .inl ⟨g1,λj w hw=>g2 j (yb.1 hw).1 w hw⟩
 ·exact .inr ⟨i,v,g1,g2,g3,g4,λj hj w hw=>g5 j hj (yb.1 hw).1 w hw⟩
theorem QRB(m:Wr->Bool)(l:List Wr)(i:Nat)(w:Wr)(hw:l[i]? =some w):∃(k:Int) (b:Bool),(match ZI (JM m l 0 []) [.it .i64 w.a]with|some v=>(v,true)|none=>(D.it .i64 0,false))=(.it .i64 k,b)/\ -1000000<=k/\k<=(l.length:Int)+1000000/\(ovB m (l.drop (i+1)) w=true↔b=true/\(i:Int)<k):=by
 have hov:ovB m (l.drop (i+1)) w=true↔∃j:Nat,i<j/\∃v,l[j]? =some v/\m v=true/\v.a=w.a:=by
  unfold ovB;rw[vz];constructor
  ·rintro ⟨v,hv,h2⟩;rw[zf,decide_eq_true_eq]at h2;obtain⟨j,hj,rfl⟩:=uh hv;rw[ym]at hj;exact⟨i+1+j,by omega,_,by rw[xq,zk om],h2⟩
  ·rintro ⟨j,hj,v,hv,h2,h3⟩;refine⟨v,?_,by rw[h2,xl];exact decide_eq_true h3⟩;refine yw (i:=j-(i+1)) ?_;rw[wo,show i+1+(j-(i+1))=j by omega];exact hv
 rcases(QM5 m l).2 w.a with⟨g1,g2⟩|⟨k,v,g1,g2,g3,g4,g5⟩
 ·refine ⟨0,false,by rw[g1],by omega,by omega,?_⟩;rw[hov];constructor
  ·rintro ⟨j,hj,v,hv,h2,h3⟩;exact absurd h3 (g2 j v hv h2)
  ·rintro ⟨h,_⟩;cases h
 ·have hkl:=(yb.1 g2).1;refine⟨(k:Nat),true,by rw[g1],by omega,by omega,?_⟩;rw[hov];constructor
  ·rintro ⟨j,hj,u,hu,h2,h3⟩;refine⟨rfl,?_⟩;have:¬k<j:=λh=>g5 j h u hu h2 h3;omega
  ·rintro ⟨_,h⟩;exact⟨k,by omega,v,g2,g3,g4⟩
def QB3(m:Wr->Bool)(l:List Wr)(k:Nat):List Wr:=(List.range k).filterMap λi=>match l[i]? with|some w=>if m w=true\/ovB m (l.drop (i+1)) w=true then none else some w|none=>none
theorem QLW{m:Wr->Bool}{l:List Wr}(h:l[k]? =some w):QB3 m l (k+1)=QB3 m l k++if m w=true\/ovB m (l.drop (k+1)) w=true then []else [w]:=by
 unfold QB3;rw[x3,List.filterMap_append];congr 1;simp only[W7,List.filterMap_nil,h];split
 ·rename_i h2;split at h2
  ·rename_i h3;rw[if_pos h3]
  ·cases h2
 ·rename_i x h2;split at h2
  ·cases h2
  ·rename_i h3;rw[if_neg h3];rw[za h2]
theorem QHG(m:Wr->Bool):∀(t:List Wr),QB3 m t t.length=Xd m t
 |[]=>rfl
 |w::t=>by
  have ih:=QHG m t;unfold QB3 at ih⊢;rw[yo,List.range_succ_eq_map,W7,List.filterMap_map];have e:((λi=>match (w::t)[i]? with|some x=>if m x=true\/ovB m ((w::t).drop (i+1)) x=true then none else some x|none=>none)∘Nat.succ)=λi=>match t[i]? with|some x=>if m x=true\/ovB m (t.drop (i+1)) x=true then none else some x|none=>none:=by
   funext i;simp only[Function.comp,Nat.succ_eq_add_one,Wp,u6]
  rw[e,ih];simp only[u7,u6,v7];show _=if m w=true\/t.any (λv=>m v&&decide (v.a=w.a))=true then Xd m t else w::Xd m t
  by_cases h:m w=true\/ovB m t w=true
  ·rw [if_pos h];exact(if_pos h).symm
  ·rw [if_neg h];exact(if_neg h).symm
theorem QM6(m:Wr->Bool)(l:List Wr)(k:Nat):(QB3 m l k).length<=k:=by
 unfold QB3;refine y9 (List.length_filterMap_le ..) ?_;rw[yy];exact zr _
def bst:Option Int->Int|none=>0|some x=>x
def smB:Option Int->Bool|none=>false|some _=>true
theorem QLX(tags:List (Int×Int))(l:List Wr)(w:Wr):YF tags (l++[w])=QM4 tags (YF tags l) w:=by unfold YF;rw[vr];rfl
def tpT:List D:=[.it .i64 0,.it .i64 0]
theorem QCU:Yy Tryz.prog 47 tpT:=Yy.struct Tryz.underlying47 (by kernel_rfl) (by kernel_rfl)
def tuA(T:Nat->Nat)(tags:List (Int×Int))(M:List (List D×D))(ws:List Wr)(k:Nat):S:=⟨[(1,.mp 0),(6,.d (.it .i64 (bst (YF tags (ws.take k))))),(7,.d (.bl (smB (YF tags (ws.take k))))),(10,.d (.fs 36 (ws.map Q6))),(11,.d (.it .i64 (ws.length:Nat))),(12,.d (.it .i64 (k:Nat)))],[(0,.mp true true tpT M),(1,.cells 1 [.mp 0])]++Qv 2 [1] T,4⟩
theorem QRC(tags:List (Int×Int))(ws:List Wr)(hw:∀w∈ws,w.s.length=32)(hl:ws.length<=100000):
  FnH Tryz.prog 217 [.d (.fs 36 (ws.map Q6)),.mp 0] [(0,.mp true true tpT (mpT tags)),(1,.cells 1 [.mp 0])] 2 [1] (.tup [.d (.it .i64 (bst (YF tags ws))),.d (.bl (smB (YF tags ws)))]) [(0,.mp true true tpT (mpT tags)),(1,.cells 1 [.mp 0])] 2:=by
 have hwl:(ws.map Q6).length=ws.length:=ze ..;have hg0:=QJ6 tags;generalize mpT tags=M at*
 refine QV QUI λT=>?_;(repeat' (conv=>whnf);first|refine QC ?_|intro x hx hu|intro h|apply sS);conv=>whnf
 refine Qa QE (λk:Nat=>k<=ws.length) (tuA T tags M ws) (λk=>ws.length-k) 0 (yc _) (Wk.en ⟨ai rfl (ai rfl (ai rfl (ai rfl (ai (QM (by rw[hwl])) rr)))),rr,rfl⟩) ?_;intro k hk;by_cases hkl:k<ws.length
 ·obtain ⟨w,hx⟩:=Q8 hkl;have hws:=hw w (yw hx);have hg:=hg0 w;have htk:YF tags (ws.take (k+1))=QM4 tags (YF tags (ws.take k)) w:=by rw[ZF hx,QLX]
  have hto:∀ {N:Nat} {σ:S} {r:Option Int},QM4 tags (YF tags (ws.take k)) w=r->Wk N σ ⟨[(1,.mp 0),(6,.d (.it .i64 (bst r))),(7,.d (.bl (smB r))),(10,.d (.fs 36 (ws.map Q6))),(11,.d (.it .i64 (ws.length:Nat))),(12,.d (.it .i64 ((k+1:Nat):Int)))],[(0,.mp true true tpT M),(1,.cells 1 [.mp 0])]++Qv 2 [1] T,4⟩->Wk N σ (tuA T tags M ws (k+1)):=λh q=>by unfold tuA;rw[htk,h];exact q
  have hS:QM4 tags (YF tags (ws.take k)) w=if tgB tags w=true then(match YF tags (ws.take k)with|none=>some w.e|some x=>some (max x w.e))else YF tags (ws.take k):=rfl
  unfold tuA;generalize YF tags (ws.take k)=t at*
  obtain⟨wa,wS,wk,wi,we⟩:=w;obtain⟨g,rfl⟩:=JZ hws;dsimp only at hS hg;by_cases htg:tgB tags ⟨wa,Zu g,wk,wi,we⟩=true
  ·rw [if_pos htg]at hg hS;cases t with
   |none=>
    (repeat' (conv=>whnf);first|refine OpX.lookupA (kk:=2) (kx:=[.it .i64 wk,.it .i64 wi]) (l:=M) rfl rfl Tryz.underlying223 QCU (λw=>Tryz.zeroValue3 w) (λF=> .it _ _) rfl rfl rfl rfl hg ?_|with_reducible refine Zr hx ?_|with_reducible refine AtA.mk' ?_|refine QC ?_|intro x hx hu|intro h|apply sS);all_goals try omega
    exact⟨k+1,hkl,by first|omega|(dsimp only;omega),hto hS (Wk.en ⟨ai rfl (ai rfl (ai rfl (ai rfl (ai rfl (ai (QM om) trivial))))),rr,rfl⟩)⟩
   |some x=>
    by_cases hxe:x<we
    ·have hm:max x we=we:=by omega
     dsimp only at hS;rw[hm]at hS;unfold bst smB;(repeat' (conv=>whnf);first|refine OpX.lookupA (kk:=2) (kx:=[.it .i64 wk,.it .i64 wi]) (l:=M) rfl rfl Tryz.underlying223 QCU (λw=>Tryz.zeroValue3 w) (λF=> .it _ _) rfl rfl rfl rfl hg ?_|with_reducible refine Zr hx ?_|with_reducible refine AtA.mk' ?_|refine QC ?_|intro x hx hu|intro h|apply sS);all_goals try omega
     exact⟨k+1,hkl,by first|omega|(dsimp only;omega),hto hS (Wk.en ⟨ai rfl (ai rfl (ai rfl (ai rfl (ai rfl (ai (QM om) trivial))))),rr,rfl⟩)⟩
    ·have hm:max x we=x:=by omega
     dsimp only at hS;rw[hm]at hS;unfold bst smB;(repeat' (conv=>whnf);first|refine OpX.lookupA (kk:=2) (kx:=[.it .i64 wk,.it .i64 wi]) (l:=M) rfl rfl Tryz.underlying223 QCU (λw=>Tryz.zeroValue3 w) (λF=> .it _ _) rfl rfl rfl rfl hg ?_|with_reducible refine Zr hx ?_|with_reducible refine AtA.mk' ?_|refine QC ?_|intro x hx hu|intro h|apply sS);all_goals try omega
     exact⟨k+1,hkl,by first|omega|(dsimp only;omega),hto hS (Wk.en ⟨ai rfl (ai rfl (ai rfl (ai rfl (ai rfl (ai (QM om) trivial))))),rr,rfl⟩)⟩
  ·rw [if_neg htg]at hg hS;(repeat' (conv=>whnf);first|refine OpX.lookupA (kk:=2) (kx:=[.it .i64 wk,.it .i64 wi]) (l:=M) rfl rfl Tryz.underlying223 QCU (λw=>Tryz.zeroValue3 w) (λF=> .it _ _) rfl rfl rfl rfl hg ?_|with_reducible refine Zr hx ?_|with_reducible refine AtA.mk' ?_|refine QC ?_|intro x hx hu|intro h|apply sS);all_goals try omega
   exact⟨k+1,hkl,by first|omega|(dsimp only;omega),hto hS (Wk.en ⟨ai rfl (ai rfl (ai rfl (ai rfl (ai rfl (ai (QM om) trivial))))),rr,rfl⟩)⟩
 ·have hke:k=ws.length:=by omega
  subst hke;unfold tuA;rw[vn];(repeat' (conv=>whnf);first|refine QC ?_|intro x hx hu|intro h|apply sS);all_goals try omega
  exact QO
theorem QO9(tags:List (Int×Int))(t:Option Int)(w:Wr)(hws:w.s.length=32):
  FnH Tryz.prog 218 [.dg 36 (Q6 w),.ptr 1 0,.ptr 3 0,.ptr 2 0] [(0,.mp true true tpT (mpT tags)),(1,.cells 1 [.mp 0]),(2,.cells 1 [.d (.it .i64 (bst t))]),(3,.cells 1 [.d (.bl (smB t))])] 4 [1,2,3] (.d (.bl (QBL tags t w))) [(0,.mp true true tpT (mpT tags)),(1,.cells 1 [.mp 0]),(2,.cells 1 [.d (.it .i64 (bst t))]),(3,.cells 1 [.d (.bl (smB t))])] 4:=by
 have hg:=QJ6 tags w;have hm:QBL tags t w=(tgB tags w||match t with|none=>false|some x=>decide (w.e<x)):=rfl;generalize mpT tags=M at*
 generalize QBL tags t w=R at*
 generalize tgB tags w=tg at*
 obtain⟨wa,wS,wk,wi,we⟩:=w;obtain⟨g,rfl⟩:=JZ hws;dsimp only at hg hm;cases tg with
 |true=>
  rw[if_pos rfl]at hg;rw[Bool.true_or]at hm;subst hm;refine QV QQf λT=>?_;(repeat' (conv=>whnf);first|refine OpX.lookupA (kk:=2) (kx:=[.it .i64 wk,.it .i64 wi]) (l:=M) rfl rfl Tryz.underlying223 QCU (λw=>Tryz.zeroValue3 w) (λF=> .it _ _) rfl rfl rfl rfl hg ?_|with_reducible refine AtA.mk' ?_|refine QC ?_|intro x hx hu|intro h|apply sS);all_goals try omega
  exact QO
 |false=>
  rw[if_neg (by decide)]at hg;rw[jc]at hm;cases t with
  |none=>
   dsimp only at hm;subst hm;refine QV QQf λT=>?_;(repeat' (conv=>whnf);first|refine OpX.lookupA (kk:=2) (kx:=[.it .i64 wk,.it .i64 wi]) (l:=M) rfl rfl Tryz.underlying223 QCU (λw=>Tryz.zeroValue3 w) (λF=> .it _ _) rfl rfl rfl rfl hg ?_|with_reducible refine AtA.mk' ?_|refine QC ?_|intro x hx hu|intro h|apply sS);all_goals try omega
   exact QO
  |some x=>
   dsimp only at hm;unfold bst smB;subst hm;refine QV QQf λT=>?_;(repeat' (conv=>whnf);first|refine OpX.lookupA (kk:=2) (kx:=[.it .i64 wk,.it .i64 wi]) (l:=M) rfl rfl Tryz.underlying223 QCU (λw=>Tryz.zeroValue3 w) (λF=> .it _ _) rfl rfl rfl rfl hg ?_|with_reducible refine AtA.mk' ?_|refine QC ?_|intro x hx hu|intro h|apply sS);all_goals try omega
   all_goals exact QO
theorem QM7(es:List (List D))(hl:es.length<=100000):FnC Tryz.prog 68 [.d (.fs 2 es)] (.d (.fs 2 es)):=by
 refine QK i68 ?_;(repeat' (conv=>whnf);first|refine QC ?_|intro x hx hu|intro h|apply sS);all_goals first|rfl|(obtain rfl:es=[]:=(by cases es with|nil=>rfl|cons=>(rename_i h _;cases h));rfl)
end Go.Proofs.YtikgcbioagmkkaaGreatDoor
