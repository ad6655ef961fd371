/- Contracts of the functions that the law reaches, and the law. Conditions: none. -/
import Derived.Test.YthknbpijaoljgaaGreatDoorKB
import Derived.Test.YthknbpijaoljgaaGreatDoorSD
import Derived.Test.YthknbpijaoljgaaGreatDoorSC
set_option maxRecDepth 100000
set_option linter.all false
set_option maxHeartbeats 16000000
namespace Go.Proofs.YthknbpijaoljgaaGreatDoor
open Go.Sy
theorem QJ2 {f g : Int → List UInt8} (h : ∀ n : Int, 0 ≤ n → f n = g n) (n : Int) : QL f n = QL g n := by
 unfold QL
 split
 ·rw [h _ (by omega)]
 ·rfl
theorem QJ3 {f g : Int → List UInt8} (h : ∀ n : Int, 0 ≤ n → f n = g n) (n : Int) : QQ f n = QQ g n := by
 unfold QQ
 split
 ·rw [h _ (by omega)]
 ·rfl
def QH2 : List UInt8 := [2, 0, 0, 0, 0, 0, 0, 0, 0, 0, 0, 0, 0, 0, 0, 0, 0, 0, 0, 0, 0, 0, 0, 0, 0, 0, 0, 0, 0, 0, 0, 0]
def QG4 : List (List UInt8) := QGx :: QH2 :: List.replicate 63 Qk
def k1S : List UInt8 := [1, 0, 2, 1, 0, 0, 0, 0, 0, 0, 0, 0, 0, 0, 0, 0, 97, 0, 0, 0, 0, 0, 0, 0, 0, 0, 0, 0, 0, 0, 0, 0]
def k2S : List UInt8 := [1, 0, 0, 0, 0, 0, 0, 0, 0, 0, 0, 0, 0, 0, 0, 0, 0, 0, 0, 0, 0, 0, 0, 0, 0, 0, 0, 0, 0, 0, 0, 0]
def kW : List Wr := [⟨17, k1S, 0, 0, 0⟩, ⟨3, k2S, 0, 0, 0⟩]
def kD : Option Dk := QMN QG4 kW
theorem f1 : QAu (rdS kD) [47, 97] = (2, 0) := by decide +kernel
theorem f2 : YB (rdS kD) 0 [97] = some 0 := by decide +kernel
theorem f3 : QAu (rdS kD) [47, 98] = (0, 4) := by decide +kernel
theorem f4 : QMl (QOb kD) := by decide +kernel
theorem f5 : ZK (rdS kD) 0 24 = [[97]] := by decide +kernel
theorem f6 : QMk (rdS kD) 2 := by decide +kernel
theorem QJ4 (x y : Nod) : Xw (QE x) (QE y) = decide (x = y) := by
 obtain ⟨p, d, t⟩ := x
 obtain ⟨p', d', t'⟩ := y
 rw [Bool.eq_iff_iff]
 simp [Xw, eqD, QE]
theorem QDu {α : Type} {a b : List α} {k : Nat} (h : a.take k = b.take k) (ha : a.length ≤ k) (hb : b.length ≤ k) : a = b := by
 rwa [List.take_of_length_le ha, List.take_of_length_le hb] at h
theorem QAy (a b : List Nod) (ha : a.length ≤ 100000) : FnC Tryz.prog 27 [.d (.fs 3 (a.map QE)), .d (.fs 3 (b.map QE))] (.d (.bl (decide (a = b)))) := by
 refine FnC.intro QA Tryz.func27 rfl Tryz.ntmps27 Tryz.call27 rfl (bll rfl) rfl ?_
 have hla : (a.map QE).length = a.length := List.length_map ..
 have hlb : (b.map QE).length = b.length := List.length_map ..
 by_cases he : a.length = b.length
 ·(repeat' ((conv=>whnf);first|with_reducible refine gA ?_|(with_reducible first|refine gB ?_|refine gZ (fun x hx hu=>?_)|refine gY (fun x hx=>?_)|refine gE ?_|refine QC.mk ?_ ?_|refine gS (fun h=>?_) (fun h=>?_)|refine Spl.nt ?_|refine Spl.mk (fun h=>?_) (fun h=>?_))))
  refine QT QA (fun k : Nat => k ≤ a.length ∧ a.take k = b.take k) (fun k => ⟨[(0, .d (.fs 3 (a.map QE))), (1, .d (.fs 3 (b.map QE))), (5, .d (.it .i64 k))], [], 0⟩) (fun k => a.length - k) 0 ⟨Nat.zero_le _, rfl⟩ ⟨⟨rfl, rfl, rfl, trivial⟩, trivial, rfl⟩ ?_
  intro k ⟨k1, k2⟩
  rcases Nat.lt_or_ge k a.length with hkl | hkl
  ·obtain ⟨x, hx⟩ := QX hkl
   obtain ⟨y, hy⟩ := QX (l := b) (k := k) (by omega)
   (repeat' ((conv=>whnf);first|with_reducible refine gA ?_|(with_reducible first|refine gB ?_|refine gZ (fun x hx hu=>?_)|refine gY (fun x hx=>?_)|refine gE ?_|refine QC.mk ?_ ?_|refine gS (fun h=>?_) (fun h=>?_)|refine Spl.nt ?_|refine Spl.mk (fun h=>?_) (fun h=>?_))))
   ·have h' : Xw (QE x) (QE y) = true := h
    rw [QJ4, decide_eq_true_eq] at h'
    refine again (k + 1) ⟨by omega, ?_⟩ (by dsimp only; omega) (ai rfl (ai rfl (ai rfl trivial))) trivial rfl
    rw [Qb hx, Qb hy, k2, h']
   ·have h' : Xw (QE x) (QE y) = false := h
    rw [QJ4, decide_eq_false_iff_not] at h'
    refine XI (decide_eq_false fun hab => h' ?_).symm
    rw [hab, hy] at hx
    exact (Option.some.inj hx).symm
  ·(repeat' ((conv=>whnf);first|with_reducible refine gA ?_|(with_reducible first|refine gB ?_|refine gZ (fun x hx hu=>?_)|refine gY (fun x hx=>?_)|refine gE ?_|refine QC.mk ?_ ?_|refine gS (fun h=>?_) (fun h=>?_)|refine Spl.nt ?_|refine Spl.mk (fun h=>?_) (fun h=>?_))))
   exact XI (decide_eq_true (QDu k2 hkl (by omega))).symm
 ·(repeat' ((conv=>whnf);first|with_reducible refine gA ?_|(with_reducible first|refine gB ?_|refine gZ (fun x hx hu=>?_)|refine gY (fun x hx=>?_)|refine gE ?_|refine QC.mk ?_ ?_|refine gS (fun h=>?_) (fun h=>?_)|refine Spl.nt ?_|refine Spl.mk (fun h=>?_) (fun h=>?_))))
  exact XI (decide_eq_false fun hab => he (by rw [hab])).symm
def k3S : List UInt8 := [2, 0, 0, 0, 0, 0, 0, 0, 0, 0, 0, 0, 0, 0, 0, 0, 0, 0, 0, 0, 0, 0, 0, 0, 0, 0, 0, 0, 0, 0, 0, 0]
def kV : List Wr := [⟨17, k1S, 0, 0, 0⟩, ⟨3, k3S, 0, 0, 0⟩]
def kDV : Option Dk := QMN QG4 kV
theorem v1 : ZK (rdS kDV) 0 24 = [[97]] := by decide +kernel
theorem v2 : ZK (rdS kDV) 2 24 = [] := by decide +kernel
theorem v3 : mOf (rdS kDV) 0 [97] = 2 := by decide +kernel
theorem v4 : (QL (rdS kDV) 2).k = 2 := by decide +kernel
theorem v5 : ZE (rdS kDV) (QL (rdS kDV) 2) = [] := by decide +kernel
theorem v6 : (QL (rdS kDV) 0).k = 2 := by decide +kernel
theorem v7 : nms (rdS kDV) 0 = [[97]] := by
 unfold nms XL
 rw [v1, List.mergeSort_singleton]; rfl
theorem v8 : nms (rdS kDV) 2 = [] := by
 unfold nms XL
 rw [v2, List.mergeSort_nil]; rfl
theorem v9 : Zo (rdS kDV) = ([⟨[47, 97], true, []⟩], true) := by
 have e : QR (rdS kDV) 4 0 [] = [⟨[47, 97], true, []⟩] := by
  rw [QR, v7]
  show Qa (rdS kDV) [] 0 [97] :: ((if (QL (rdS kDV) (mOf (rdS kDV) 0 [97])).k = 2 then QR (rdS kDV) 3 (mOf (rdS kDV) 0 [97]) ([] ++ [[97]]) else []) ++ []) = _
  rw [v3, if_pos v4, QR, v8]
  show [Qa (rdS kDV) [] 0 [97]] = _
  unfold Qa
  rw [v3, v4, v5]; rfl
 unfold Zo Xz
 rw [if_pos v6, e]; rfl
theorem FnH.arg {P : Program} {f : Nat} {args args' : List AV} {pre : List (Nat × Ob)} {n : Nat} {st : List Nat} {r : AV} {post : List (Nat × Ob)} {m : Nat} (hC : FnH P f args pre n st r post m) (hl : args'.length = args.length) (ha : args'.all (AV.lt n) = true) (h : ∀ (g : Gh) (j : Nat) (h1 : j < args'.length) (h2 : j < args.length) (x : Value), AVR g args'[j] x → AVR g args[j] x) : FnH P f args' pre n st r post m :=
 { hC with a := ha, run := fun g w vs h1 hG h2 h3 h4 h5 => hC.run g w vs h1 hG h2 h3 (by omega) (fun j hj => h g j (by omega) hj _ (h5 j (by omega))) }
theorem QNu {g : Gh} {a b : Nat} {v : Value} (h : AVR g (.d (.fs a [])) v) : AVR g (.d (.fs b [])) v := by
 cases h with | d _ _ hd => ?_
 cases hd with
 | fs0 => exact .d _ _ (.fs0 _ _ _)
 | fs _ _ _ _ _ _ _ hl =>
  obtain rfl : 0 = _ := hl
  exact .d _ _ (.fs0 _ _ _)
theorem QG5 (m : List (List UInt8)) (hm : Z7 m) : FnC Tryz.prog 60 [.d (Yh m)] (QMn (Zo (imS m))) := by
 have hi := JQ m hm 0
 unfold Zo
 by_cases hk : (QL (imS m) 0).k = 2
 ·rw [if_pos hk]
  have hin : FnH Tryz.prog 105 ([.d (Yh m), .d (.it .i64 0), .d (.fs 0 [])] ++ [.ts 3 [] 0]) [(0, .tail 115 true)] 1 [] (.tup [.ts 3 ((Xz (QR (imS m) 4 0 [])).1.map QE) 0, .d (.bl (Xz (QR (imS m) 4 0 [])).2)]) [(0, .tail 115 true)] 1 :=
   FnH.arg (QFn m hm 4 0 [] [] rfl (fun s hs => by cases hs) (Nat.zero_le _)) rfl rfl fun g j h1 h2 x hx => by
    match j, h1, h2 with
    | 0, _, _ => exact hx
    | 1, _, _ => exact hx
    | 2, _, _ => exact QNu hx
    | 3, _, _ => exact hx
  refine FnC.intro QA Tryz.func60 rfl Tryz.ntmps60 Tryz.call60 rfl (bll rfl) rfl ?_
  (repeat' ((conv=>whnf);first|with_reducible refine gA ?_|((with_reducible refine QB ?_); first | refine CallE.con ⟨_, hi, ?_⟩ | refine CallE.inl ?_) | refine CallI.byHn 3 115 (l0 := [.d (Yh m), .d (.it .i64 0), .d (.fs 0 [])]) hin rfl rfl rfl ⟨.inl rfl, .inl rfl, .inl rfl, trivial⟩ rfl rfl ?_|(with_reducible first|refine gB ?_|refine gZ (fun x hx hu=>?_)|refine gY (fun x hx=>?_)|refine gE ?_|refine QC.mk ?_ ?_|refine gS (fun h=>?_) (fun h=>?_)|refine Spl.nt ?_|refine Spl.mk (fun h=>?_) (fun h=>?_))))
  exact rfl
 ·rw [if_neg hk]
  refine FnC.intro QA Tryz.func60 rfl Tryz.ntmps60 Tryz.call60 rfl (bll rfl) rfl ?_
  (repeat' ((conv=>whnf);first|with_reducible refine gA ?_|((with_reducible refine QB ?_); refine CallE.con ⟨_, hi, ?_⟩)|(with_reducible first|refine gB ?_|refine gZ (fun x hx hu=>?_)|refine gY (fun x hx=>?_)|refine gE ?_|refine QC.mk ?_ ?_|refine gS (fun h=>?_) (fun h=>?_)|refine Spl.nt ?_|refine Spl.mk (fun h=>?_) (fun h=>?_))))
  exact rfl
section
variable {f g : Int → List UInt8} (h : ∀ n : Int, 0 ≤ n → f n = g n)
include h
theorem QCq : QL f = QL g := funext (QJ2 h)
theorem QEd : QQ f = QQ g := funext (QJ3 h)
theorem QMw (p : Int) : nms f p = nms g p := by
 unfold nms ZK
 rw [QEd h]
 congr 2
 congr 1
 refine List.filter_congr fun j _ => decide_eq_decide.2 ?_
 unfold QDS
 rw [QEd h, QCq h]
theorem QMx (p : Int) (s : List UInt8) : YB f p s = YB g p s := by
 unfold YB
 congr 1
 funext k
 refine decide_eq_decide.2 ?_
 unfold QAM QDS
 rw [QEd h, QCq h]
theorem QJ5 (p : Int) (s : List UInt8) : mOf f p s = mOf g p s := by
 unfold mOf kOf
 rw [QMx h, QEd h]
theorem QLd {x : Ino} (hx : RI x) : ZE f x = ZE g x := by
 have hb : 0 ≤ x.b0 ∧ 0 ≤ x.b1 ∧ 0 ≤ x.b2 ∧ 0 ≤ x.b3 := by
  rcases hx with h | h
  ·omega
  ·refine ⟨?_, ?_, ?_, ?_⟩ <;> omega
 unfold ZE
 rw [h _ (by omega), h _ (by omega), h _ (by omega), h _ (by omega)]
theorem QMy (way : List (List UInt8)) (n : Int) (s : List UInt8) : Qa f way n s = Qa g way n s := by
 unfold Qa
 rw [QJ5 h, QCq h, QLd h (Yr g _)]
theorem QJ6 : ∀ (j : Nat) (n : Int) (way : List (List UInt8)), QR f j n way = QR g j n way
 | 0, _, _ => rfl
 | j + 1, n, way => by
  unfold QR
  rw [QMw h]
  congr 1
  funext s
  rw [QMy h, QJ5 h, QCq h, QJ6 j]
theorem QLe : Zo f = Zo g := by
 unfold Zo
 rw [QCq h, QJ6 h]
end
theorem QIk (f : Int → List UInt8) : (Zo f).1.length ≤ 64 := by
 unfold Zo Xz
 split
 ·exact List.length_take_le ..
 ·exact Nat.zero_le _
def Zw (m : List (List UInt8)) (ws : List Wr) (k : Nat) : Nat → List (List UInt8)
 | 0 => m
 | i + 1 => match ws[i]? with
  | some w => if dg k i = 1 then QGz (Zw m ws k i) w else Zw m ws k i
  | none => Zw m ws k i
theorem Jq {m : List (List UInt8)} {ws : List Wr} {k i : Nat} {w : Wr} (h : ws[i]? = some w) : Zw m ws k (i + 1) = if dg k i = 1 then QGz (Zw m ws k i) w else Zw m ws k i := by
 show (match ws[i]? with | some w => _ | none => _) = _
 rw [h]
theorem YE (m : List (List UInt8)) (ws : List Wr) (k : Nat) : ∀ i, (Zw m ws k i).length = m.length
 | 0 => rfl
 | i + 1 => by
  cases h : ws[i]? with
  | none => show (match ws[i]? with | some w => _ | none => _ : List (List UInt8)).length = _; rw [h]; exact YE m ws k i
  | some w =>
   rw [Jq h]
   split
   ·rw [QJc, YE m ws k i]
   ·exact YE m ws k i
theorem Jr {m : List (List UInt8)} (hm : Z7 m) {ws : List Wr} (hw : Xj ws) (k : Nat) : ∀ i, Z7 (Zw m ws k i)
 | 0 => hm
 | i + 1 => by
  cases h : ws[i]? with
  | none => show Z7 (match ws[i]? with | some w => _ | none => _ : List (List UInt8)); rw [h]; exact Jr hm hw k i
  | some w =>
   rw [Jq h]
   split
   ·unfold QGz
    split
    ·intro s hs
     rcases List.mem_or_eq_of_mem_set hs with h' | rfl
     ·exact Jr hm hw k i s h'
     ·exact hw w (List.mem_of_getElem? h)
    ·exact Jr hm hw k i
   ·exact Jr hm hw k i
def J9 (m : List (List UInt8)) (ws : List Wr) : Prop := ∀ w ∈ ws, 0 ≤ w.a ∧ w.a < m.length
instance (m : List (List UInt8)) (ws : List Wr) : Decidable (J9 m ws) := by unfold J9; infer_instance
def ciA (m : List (List UInt8)) (ws : List Wr) (c : Nat) (i : Nat) : S := ⟨[(0, .d (.fs 36 (ws.map Zi))), (1, .fn (.func 63) [] [.ptr 0 0]), (7, .d (.it .i64 (ws.length : Nat))), (8, .d (.it .i64 (i : Nat)))],
 [(3, .frame 10 []), (2, .frame 60 [(1, .d (.it .u64 (c : Nat))), (2, .ptr 0 0), (15, .d (.bl false))]), (0, .cells 2 ((Qh m ws).map .d))], 4⟩
def ciB (m : List (List UInt8)) (ws : List Wr) (c k : Nat) (n : Nat) (i : Nat) : S := ⟨[(1, .d (.it .u64 (c : Nat))), (7, .vx 32 n 0 m.length), (25, .d (.fs 36 (ws.map Zi))), (26, .d (.it .i64 (ws.length : Nat))), (27, .d (.it .i64 (i : Nat)))], [(n, .vec 34 32 ((Zw m ws k i).map QO) false)], n + 1⟩
theorem QH3 (m : List (List UInt8)) (hm : Z7 m) (hml : m.length ≤ 1000) (ws : List Wr) (hw : Xj ws) (hwl : ws.length ≤ 8) (k : Nat) (hk : k < 256) (hA : YD (esW ws) k) (hR : J9 m ws) (h0 : m ≠ []) : FnC Tryz.prog 28 [.dg 2 (Qh m ws), .d (.it .u64 (Q5 k ws.length : Nat))] (.tup [.d (Yh (Zw m ws k ws.length)), .d (.bl true)]) := by
 have ha := QCm m ws hw hwl k hk
 rw [decide_eq_true hA] at ha
 have hwl' : (ws.map Zi).length = ws.length := List.length_map ..
 have hml' : (m.map QO).length = m.length := List.length_map ..
 refine FnC.introW QA Tryz.func28 rfl Tryz.ntmps28 Tryz.call28 rfl (bll rfl) rfl ?_
 (repeat' ((conv=>whnf);first|with_reducible refine gA ?_|((with_reducible refine QB ?_); first | refine CallE.con ⟨_, ha, ?_⟩ | refine CallE.inl ?_) | ((with_reducible refine ZB ?_); first | with_reducible refine CallI.inl QA i65 rfl ?_ | with_reducible refine CallI.inl QA QMc rfl ?_ | with_reducible refine CallI.inl QA i63 rfl ?_)|(with_reducible first|refine gB ?_|refine gZ (fun x hx hu=>?_)|refine gY (fun x hx=>?_)|refine gE ?_|refine QC.mk ?_ ?_|refine gS (fun h=>?_) (fun h=>?_)|refine Spl.nt ?_|refine Spl.mk (fun h=>?_) (fun h=>?_))))
 conv => whnf
 generalize hc : Q5 k ws.length = c at *
 refine QV QA (fun i : Nat => i ≤ ws.length) (ciA m ws c) (fun i => ws.length - i) 0 (Nat.zero_le _) (Wk.enF (ai rfl (ai rfl (ai (QG (by rw [hwl'])) (ai rfl trivial)))) (by (repeat (first | exact trivial | refine ai (QN rfl (by with_unfolding_all exact rfl)) ?_ | refine ai (QM (by with_unfolding_all exact rfl) (by (repeat (first | exact trivial | refine ai (by with_unfolding_all exact rfl) ?_)))) ?_))) rfl) ?_
 intro i hi
 rcases Nat.lt_or_ge i ws.length with hil | hil
 ·obtain ⟨x, hx⟩ := QX hil
  have hxs := hw x (List.mem_of_getElem? hx)
  have hxr := hR x (List.mem_of_getElem? hx)
  have hxr2 := hxr
  obtain ⟨xa, xs, xk, xi, xe⟩ := x
  dsimp only at hxr
  obtain ⟨g, rfl⟩ := QGy hxs
  unfold ciA Qh
  (repeat' ((conv=>whnf);first|with_reducible refine gA ?_|with_reducible refine QAI hx ?_ | with_reducible refine AtA.mk' ?_ | ((with_reducible refine QB ?_); refine CallE.inl ?_) | ((with_reducible refine ZB ?_); with_reducible refine CallI.inl QA i63 rfl ?_)|(with_reducible first|refine gB ?_|refine gZ (fun x hx hu=>?_)|refine gY (fun x hx=>?_)|refine gE ?_|refine QC.mk ?_ ?_|refine gS (fun h=>?_) (fun h=>?_)|refine Spl.nt ?_|refine Spl.mk (fun h=>?_) (fun h=>?_))))
  all_goals first | (exfalso; omega) | (exfalso; dsimp only at *; omega) | skip
  refine ⟨i + 1, hil, by first | omega | (dsimp only; omega), Wk.enF (ai rfl (ai rfl (ai rfl (ai (QG (by omega)) trivial)))) (by (repeat (first | exact trivial | refine ai (QN rfl (by with_unfolding_all exact rfl)) ?_ | refine ai (QM (by with_unfolding_all exact rfl) (by (repeat (first | exact trivial | refine ai (by with_unfolding_all exact rfl) ?_)))) ?_))) rfl⟩
 ·have hie : i = ws.length := by omega
  subst hie
  have hne : (m.map QO).isEmpty = false := by cases m with | nil => exact absurd rfl h0 | cons => rfl
  have hf : ∀ i, i < ws.length → FnC Tryz.prog 67 [.d (.it .u64 (c : Nat)), .d (.it .i64 (i : Nat))] (.d (.it .i64 (dg k i : Nat))) := fun i hi => by
   have := QHu c i (hc ▸ Y7 hwl) (by omega)
   rwa [← hc, (Ys ws.length hwl k hk).2.2 i hi, hc] at this
  unfold ciA Qh
  (repeat' ((conv=>whnf);first|with_reducible refine gA ?_|((with_reducible refine QIT ?_); first | refine QAB.vec (ai rfl ?_) | refine QAB.vec ?_) | with_reducible refine Spl.no hne ?_ | with_reducible refine AtA.mk' ?_ | ((with_reducible refine QB ?_); refine CallE.inl ?_) | ((with_reducible refine ZB ?_); with_reducible refine CallI.inl QA i66 rfl ?_)|(with_reducible first|refine gB ?_|refine gZ (fun x hx hu=>?_)|refine gY (fun x hx=>?_)|refine gE ?_|refine QC.mk ?_ ?_|refine gS (fun h=>?_) (fun h=>?_)|refine Spl.nt ?_|refine Spl.mk (fun h=>?_) (fun h=>?_))))
  conv => whnf
  refine QT QA (fun i : Nat => i ≤ ws.length) (ciB m ws c k 6) (fun i => ws.length - i) 0 (Nat.zero_le _) ⟨ai rfl (ai (QMO hml') (ai rfl (ai (QG (by rw [hwl'])) (ai rfl trivial)))), ai rfl trivial, rfl⟩ ?_
  intro i hi
  have hil := YE m ws k i
  have hil' : ((Zw m ws k i).map QO).length = m.length := by rw [List.length_map, hil]
  rcases Nat.lt_or_ge i ws.length with hin | hin
  ·obtain ⟨x, hx⟩ := QX hin
   have hxs := hw x (List.mem_of_getElem? hx)
   have hxr := hR x (List.mem_of_getElem? hx)
   have hxr2 := hxr
   have hst := Jq (m := m) (k := k) hx
   have hfi := hf i hin
   have hd2 := QCj k i
   obtain ⟨xa, xs, xk, xi, xe⟩ := x
   dsimp only at hxr
   obtain ⟨g, rfl⟩ := QGy hxs
   (repeat' ((conv=>whnf);first|with_reducible refine gA ?_|with_reducible refine QAI hx ?_ | with_reducible refine AtA.mk' ?_ | ((with_reducible refine QB ?_); refine CallE.con ⟨_, hfi, ?_⟩) | with_reducible refine Qe.mk ⟨_, hfi, ?_⟩|(with_reducible first|refine gB ?_|refine gZ (fun x hx hu=>?_)|refine gY (fun x hx=>?_)|refine gE ?_|refine QC.mk ?_ ?_|refine gS (fun h=>?_) (fun h=>?_)|refine Spl.nt ?_|refine Spl.mk (fun h=>?_) (fun h=>?_))))
   all_goals first | (exfalso; omega) | (exfalso; dsimp only at *; omega) | skip
   all_goals (refine again (i + 1) hin (by first | omega | (dsimp only; omega)) (ai rfl (ai rfl (ai rfl (ai rfl (ai (QG (by omega)) trivial))))) (ai (QJb ?_) trivial) rfl)
   all_goals first
    | (rw [hst, if_neg (by omega)]; done)
    | (rw [hst, if_pos (by omega)]; unfold QGz; rw [if_pos (by rw [hil]; dsimp only; omega)]; refine QHr (s := QHq g) (k := xa.toNat) (Nat.zero_add _) ?_; rw [hil]; dsimp only at *; omega)
  ·have hie : i = ws.length := by omega
   subst hie
   (repeat' ((conv=>whnf);first|with_reducible refine gA ?_|(with_reducible first|refine gB ?_|refine gZ (fun x hx hu=>?_)|refine gY (fun x hx=>?_)|refine gE ?_|refine QC.mk ?_ ?_|refine gS (fun h=>?_) (fun h=>?_)|refine Spl.nt ?_|refine Spl.mk (fun h=>?_) (fun h=>?_))))
   refine ⟨⟨[(4, .d (.fs 32 ((Zw m ws k ws.length).map QO))), (5, .d (.bl true))], [], 20⟩, Wk.frzL 6 34 32 ((Zw m ws k ws.length).map QO) false (by with_unfolding_all exact rfl) (ai (Fz.vx 0 m.length _ (by rw [hil']; omega) (by rw [List.drop_zero, List.take_of_length_le (by rw [hil']; exact Nat.le_refl _)])) (ai (Fz.same _) trivial)) trivial rfl, ?_⟩
   rfl
theorem QLf (m : List (List UInt8)) (ws : List Wr) (hw : Xj ws) (hwl : ws.length ≤ 8) (k : Nat) (hk : k < 256) (hR : ¬ J9 m ws) : FnC Tryz.prog 28 [.dg 2 (Qh m ws), .d (.it .u64 (Q5 k ws.length : Nat))] (.tup [.d (.fs 32 []), .d (.bl false)]) := by
 have ha := QCm m ws hw hwl k hk
 have hwl' : (ws.map Zi).length = ws.length := List.length_map ..
 have hml' : (m.map QO).length = m.length := List.length_map ..
 by_cases hA : YD (esW ws) k
 ·rw [decide_eq_true hA] at ha
  refine FnC.intro QA Tryz.func28 rfl Tryz.ntmps28 Tryz.call28 rfl (bll rfl) rfl ?_
  (repeat' ((conv=>whnf);first|with_reducible refine gA ?_|((with_reducible refine QB ?_); first | refine CallE.con ⟨_, ha, ?_⟩ | refine CallE.inl ?_) | ((with_reducible refine ZB ?_); first | with_reducible refine CallI.inl QA i65 rfl ?_ | with_reducible refine CallI.inl QA QMc rfl ?_)|(with_reducible first|refine gB ?_|refine gZ (fun x hx hu=>?_)|refine gY (fun x hx=>?_)|refine gE ?_|refine QC.mk ?_ ?_|refine gS (fun h=>?_) (fun h=>?_)|refine Spl.nt ?_|refine Spl.mk (fun h=>?_) (fun h=>?_))))
  conv => whnf
  generalize hc : Q5 k ws.length = c at *
  refine QV QA (fun i : Nat => i ≤ ws.length ∧ J9 m (ws.take i)) (ciA m ws c) (fun i => ws.length - i) 0 ⟨Nat.zero_le _, fun w hw' => by simp at hw'⟩ (Wk.enF (ai rfl (ai rfl (ai (QG (by rw [hwl'])) (ai rfl trivial)))) (by (repeat (first | exact trivial | refine ai (QN rfl (by with_unfolding_all exact rfl)) ?_ | refine ai (QM (by with_unfolding_all exact rfl) (by (repeat (first | exact trivial | refine ai (by with_unfolding_all exact rfl) ?_)))) ?_))) rfl) ?_
  intro i ⟨hi, hRi⟩
  rcases Nat.lt_or_ge i ws.length with hil | hil
  ·obtain ⟨x, hx⟩ := QX hil
   have hxs := hw x (List.mem_of_getElem? hx)
   have hnx : 0 ≤ x.a ∧ x.a < m.length → J9 m (ws.take (i + 1)) := fun h y hy => by
    rw [Qb hx] at hy
    rcases List.mem_append.1 hy with hy | hy
    ·exact hRi y hy
    ·rw [List.mem_singleton.1 hy]; exact h
   obtain ⟨xa, xs, xk, xi, xe⟩ := x
   obtain ⟨g, rfl⟩ := QGy hxs
   unfold ciA Qh
   (repeat' ((conv=>whnf);first|with_reducible refine gA ?_|with_reducible refine QAI hx ?_ | with_reducible refine AtA.mk' ?_ | ((with_reducible refine QB ?_); refine CallE.inl ?_) | ((with_reducible refine ZB ?_); with_reducible refine CallI.inl QA i63 rfl ?_)|(with_reducible first|refine gB ?_|refine gZ (fun x hx hu=>?_)|refine gY (fun x hx=>?_)|refine gE ?_|refine QC.mk ?_ ?_|refine gS (fun h=>?_) (fun h=>?_)|refine Spl.nt ?_|refine Spl.mk (fun h=>?_) (fun h=>?_))))
   all_goals first
    | rfl
    | refine ⟨i + 1, ⟨hil, hnx (by dsimp only at *; omega)⟩, by first | omega | (dsimp only; omega), Wk.enF (ai rfl (ai rfl (ai rfl (ai (QG (by omega)) trivial)))) (by (repeat (first | exact trivial | refine ai (QN rfl (by with_unfolding_all exact rfl)) ?_ | refine ai (QM (by with_unfolding_all exact rfl) (by (repeat (first | exact trivial | refine ai (by with_unfolding_all exact rfl) ?_)))) ?_))) rfl⟩
  ·exact absurd (by rw [show i = ws.length by omega, List.take_length] at hRi; exact hRi) hR
 ·rw [decide_eq_false hA] at ha
  refine FnC.intro QA Tryz.func28 rfl Tryz.ntmps28 Tryz.call28 rfl (bll rfl) rfl ?_
  (repeat' ((conv=>whnf);first|with_reducible refine gA ?_|((with_reducible refine QB ?_); first | refine CallE.con ⟨_, ha, ?_⟩ | refine CallE.inl ?_)|(with_reducible first|refine gB ?_|refine gZ (fun x hx hu=>?_)|refine gY (fun x hx=>?_)|refine gE ?_|refine QC.mk ?_ ?_|refine gS (fun h=>?_) (fun h=>?_)|refine Spl.nt ?_|refine Spl.mk (fun h=>?_) (fun h=>?_))))
  rfl
def riB (m : List (List UInt8)) (ws : List Wr) (c k : Nat) (n : Nat) (i : Nat) : S := ⟨[(1, .d (.it .u64 (c : Nat))), (2, .ptr 0 0), (6, .vx 32 n 0 m.length), (7, .d (.it .i64 (i : Nat)))], [(n, .vec 34 32 ((Zw m ws k i).map QO) false), (0, .cells 2 ((Qh m ws).map .d))], n + 1⟩
theorem QLg (m : List (List UInt8)) (hm : Z7 m) (hml : m.length ≤ 1000) (ws : List Wr) (hw : Xj ws) (hwl : ws.length ≤ 8) (k : Nat) (hk : k < 256) (hA : YD (esW ws) k) (hR : J9 m ws) : FnC Tryz.prog 59 [.dg 2 (Qh m ws), .d (.it .u64 (Q5 k ws.length : Nat))] (.tup [.d (Yh (Zw m ws k ws.length)), .d (.bl true)]) := by
 have ha := QFj m ws hw hwl k hk
 rw [decide_eq_true hA] at ha
 have hwl' : (ws.map Zi).length = ws.length := List.length_map ..
 have hml' : (m.map QO).length = m.length := List.length_map ..
 generalize hc : Q5 k ws.length = c at *
 have hf : ∀ i, i < ws.length → FnC Tryz.prog 103 [.d (.it .u64 (c : Nat)), .d (.it .i64 (i : Nat))] (.d (.it .i64 (dg k i : Nat))) := fun i hi => by
  have := QJo c i (hc ▸ Y7 hwl) (by omega)
  rwa [← hc, (Ys ws.length hwl k hk).2.2 i hi, hc] at this
 refine FnC.introW QA Tryz.func59 rfl Tryz.ntmps59 Tryz.call59 rfl (bll rfl) rfl ?_
 (repeat' ((conv=>whnf);first|with_reducible refine gA ?_|((with_reducible refine QB ?_); first | refine CallE.con ⟨_, ha, ?_⟩ | refine CallE.inl ?_) | ((with_reducible refine QIT ?_); first | refine QAB.vec (ai rfl ?_) | refine QAB.vec ?_)|(with_reducible first|refine gB ?_|refine gZ (fun x hx hu=>?_)|refine gY (fun x hx=>?_)|refine gE ?_|refine QC.mk ?_ ?_|refine gS (fun h=>?_) (fun h=>?_)|refine Spl.nt ?_|refine Spl.mk (fun h=>?_) (fun h=>?_))))
 conv => whnf
 refine QT QA (fun i : Nat => i ≤ ws.length) (riB m ws c k 2) (fun i => ws.length - i) 0 (Nat.zero_le _) ⟨ai rfl (ai rfl (ai (QMO hml') (ai rfl trivial))), ai rfl (ai rfl trivial), rfl⟩ ?_
 intro i hi
 have hil := YE m ws k i
 have hil' : ((Zw m ws k i).map QO).length = m.length := by rw [List.length_map, hil]
 rcases Nat.lt_or_ge i ws.length with hin | hin
 ·obtain ⟨x, hx⟩ := QX hin
  have hxs := hw x (List.mem_of_getElem? hx)
  have hxr := hR x (List.mem_of_getElem? hx)
  have hxr2 := hxr
  have hst := Jq (m := m) (k := k) hx
  have hfi := hf i hin
  have hd2 := QCj k i
  obtain ⟨xa, xs, xk, xi, xe⟩ := x
  dsimp only at hxr
  obtain ⟨g, rfl⟩ := QGy hxs
  unfold riB Qh
  (repeat' ((conv=>whnf);first|with_reducible refine gA ?_|with_reducible refine QAI hx ?_ | with_reducible refine AtA.mk' ?_ | ((with_reducible refine QB ?_); refine CallE.con ⟨_, hfi, ?_⟩) | with_reducible refine Qe.mk ⟨_, hfi, ?_⟩|(with_reducible first|refine gB ?_|refine gZ (fun x hx hu=>?_)|refine gY (fun x hx=>?_)|refine gE ?_|refine QC.mk ?_ ?_|refine gS (fun h=>?_) (fun h=>?_)|refine Spl.nt ?_|refine Spl.mk (fun h=>?_) (fun h=>?_))))
  all_goals first | (exfalso; omega) | (exfalso; dsimp only at *; omega) | skip
  all_goals (refine again (i + 1) hin (by first | omega | (dsimp only; omega)) (ai rfl (ai rfl (ai rfl (ai (QG (by omega)) trivial)))) (ai (QJb ?_) (ai rfl trivial)) rfl)
  all_goals first
   | (rw [hst, if_neg (by omega)]; done)
   | (rw [hst, if_pos (by omega)]; unfold QGz; rw [if_pos (by rw [hil]; dsimp only; omega)]; refine QHr (s := QHq g) (k := xa.toNat) (Nat.zero_add _) ?_; rw [hil]; dsimp only at *; omega)
 ·have hie : i = ws.length := by omega
  subst hie
  unfold riB Qh
  (repeat' ((conv=>whnf);first|with_reducible refine gA ?_|(with_reducible first|refine gB ?_|refine gZ (fun x hx hu=>?_)|refine gY (fun x hx=>?_)|refine gE ?_|refine QC.mk ?_ ?_|refine gS (fun h=>?_) (fun h=>?_)|refine Spl.nt ?_|refine Spl.mk (fun h=>?_) (fun h=>?_))))
  refine ⟨⟨[(4, .d (.fs 32 ((Zw m ws k ws.length).map QO))), (5, .d (.bl true))], [], 20⟩, Wk.frzL 2 34 32 ((Zw m ws k ws.length).map QO) false (by with_unfolding_all exact rfl) (ai (Fz.vx 0 m.length _ (by rw [hil']; omega) (by rw [List.drop_zero, List.take_of_length_le (by rw [hil']; exact Nat.le_refl _)])) (ai (Fz.same _) trivial)) trivial rfl, ?_⟩
  rfl
theorem XP {P : Program} {f : Nat} {args : List AV} {K : AV → Prop} (h : Qe P f args K) : Qe P f args K := h
theorem QNv {N : Nat} {σ τ : S} (h : Wk N σ τ) : Wk N σ τ := h
def eaS (p q : Nat) (m : List (List UInt8)) (ws : List Wr) : S := ⟨[(4, .d (.ot .nilFunc)), (3, .ptr 7 0), (5, .ptr p 0), (6, .ptr q 0)],
 [(p, .cells 1 [.d (.it .i64 ((ws.map Zi).length : Nat))]), (q, .cells 1 [.d (.fs 1 (vI (esW ws)))]), (7, .cells 1 [.d (.bl false)]), (5, .frame 29 [(3, .ptr 0 0), (5, .ptr 1 0), (6, .ptr 2 0), (7, .ptr 3 0), (8, .ptr 4 0)]), (4, .cells 1 [.nl 1]), (3, .cells 1 [.d (.bl false)]), (2, .cells 1 [.nl 1]), (1, .cells 1 [.d (.it .i64 65536)]), (0, .cells 2 ((Qh m ws).map .d))], 10⟩
def swp (n : Nat) : Nat := if n = 8 then 9 else if n = 9 then 8 else n
theorem QJ7 (m : List (List UInt8)) (ws : List Wr) {N : Nat} : Wk N (eaS 9 8 m ws) (eaS 8 9 m ws) := Wk.ren swp (ai rfl (ai rfl (ai rfl (ai rfl trivial)))) (ai rfl (ai rfl (ai rfl (ai rfl (ai rfl (ai rfl (ai rfl (ai rfl (ai rfl trivial))))))))) rfl rfl
def faL (F : Func) (ws : List Wr) (l : List (List D)) (t : Nat) : S := ⟨[(0, .yld 11), (1, .ptr 8 0), (2, .ptr 7 0), (3, .ptr 9 0), (9, .d (.it .u64 (cpw ws.length : Nat))), (10, .d (.it .u64 (t : Nat)))],
 [(11, rgL 10 F), (10, .frame 29 [(3, .ptr 0 0), (5, .ptr 1 0), (6, .ptr 2 0), (7, .ptr 3 0), (8, .ptr 4 0)]), (8, .cells 1 [.d (.it .i64 ((ws.map Zi).length : Nat))]), (9, .cells 1 [.d (.fs 1 (vI (esW ws)))]), (7, .cells 1 [.d (.bl false)]), (4, .cells 1 [.ts 1 l 12]), (12, .tail 68 true), (3, .cells 1 [.d (.bl false)]), (2, .cells 1 [.nl 1]), (1, .cells 1 [.d (.it .i64 65536)])], 13⟩
def faA (F : Func) (ws : List Wr) (t : Nat) : S := faL F ws (XO ws t) t
theorem QJ8 {F : Func} {ws : List Wr} {l : List (List D)} {t : Nat} {N : Nat} {σ : S} (h : XO ws t = l) (k : Wk N σ (faL F ws l t)) : Wk N σ (faA F ws t) := by unfold faA; rw [h]; exact k
def faB (F : Func) (m : List (List UInt8)) (ws : List Wr) : S := ⟨[(0, .yld 11), (1, .ptr 8 0), (2, .ptr 7 0), (3, .ptr 9 0), (9, .d (.it .u64 (cpw ws.length : Nat))), (10, .d (.it .u64 0))],
 [(11, rgL 10 F), (10, .frame 29 [(3, .ptr 0 0), (5, .ptr 1 0), (6, .ptr 2 0), (7, .ptr 3 0), (8, .ptr 4 0)]), (8, .cells 1 [.d (.it .i64 ((ws.map Zi).length : Nat))]), (9, .cells 1 [.d (.fs 1 (vI (esW ws)))]), (7, .cells 1 [.d (.bl false)]), (4, .cells 1 [.nl 1]), (3, .cells 1 [.d (.bl false)]), (2, .cells 1 [.nl 1]), (1, .cells 1 [.d (.it .i64 65536)])], 12⟩
theorem QH4 (m : List (List UInt8)) (ws : List Wr) (hw : Xj ws) (hwl : ws.length ≤ 8) : FnC Tryz.prog 53 [.dg 2 (Qh m ws), .d (.bl false), .d (.it .i64 65536)] (.tup [.d (.fs 1 (XO ws (cpw ws.length))), .d (.bl true)]) := by
 have hwl' : (ws.map Zi).length = ws.length := List.length_map ..
 have hct : FnC Tryz.prog 129 [.d (.it .i64 ((ws.map Zi).length : Nat)), .d (.bl false)] (.d (.it .u64 (cpw ws.length : Nat))) := by rw [hwl']; exact QDo ws.length hwl
 have hpn := YC hwl
 have hep := QH0 m ws hw (by omega)
 refine FnC.introW QA Tryz.func53 rfl Tryz.ntmps53 Tryz.call53 rfl (bll rfl) rfl ?_
 (repeat' ((conv=>whnf);first|with_reducible refine gA ?_|((with_reducible refine XP ?_); refine Qe.mk ⟨_, hep, ?_⟩) | ((with_reducible refine QB ?_); first | refine CallE.con ⟨_, hep, ?_⟩ | refine CallE.inl ?_) | ((with_reducible refine ZB ?_); with_reducible refine CallI.inl QA i98 rfl ?_)|(with_reducible first|refine gB0 ?_|refine gZ (fun x hx hu=>?_)|refine gY (fun x hx=>?_)|refine gE ?_|refine QC.mk ?_ ?_|refine gS (fun h=>?_) (fun h=>?_)|refine Spl.nt ?_|refine Spl.mk (fun h=>?_) (fun h=>?_))))
 all_goals first | (exfalso; omega) | skip
 refine Q9.mid (eaS 8 9 m ws) (QGi QA mixed [0] (by decide +kernel) ?_) ?_
 ·(repeat' ((conv=>whnf);first|with_reducible refine gA ?_|with_reducible exact trivial | with_reducible refine Br.mk ?_ ?_ | with_reducible refine AtA.mk' ?_ | ((with_reducible refine QB ?_); refine CallE.con ⟨_, hep, ?_⟩) | ((with_reducible refine XP ?_); refine Qe.mk ⟨_, hep, ?_⟩) | ((with_reducible refine QNv ?_); first | exact Wk.enF (ai rfl (ai rfl (ai rfl (ai rfl trivial)))) (by (repeat (first | exact trivial | refine ai (QN rfl (by with_unfolding_all exact rfl)) ?_ | refine ai (QM (by with_unfolding_all exact rfl) (by (repeat (first | exact trivial | refine ai (by with_unfolding_all exact rfl) ?_)))) ?_))) rfl | exact Wk.trans (Wk.enF (τ := eaS 9 8 m ws) (ai rfl (ai rfl (ai rfl (ai rfl trivial)))) (by (repeat (first | exact trivial | refine ai (QN rfl (by with_unfolding_all exact rfl)) ?_ | refine ai (QM (by with_unfolding_all exact rfl) (by (repeat (first | exact trivial | refine ai (by with_unfolding_all exact rfl) ?_)))) ?_))) rfl) (QJ7 m ws))|(with_reducible first|refine gB0 ?_|refine gZ (fun x hx hu=>?_)|refine gY (fun x hx=>?_)|refine gE ?_|refine QC.mk ?_ ?_|refine gS (fun h=>?_) (fun h=>?_)|refine Spl.nt ?_|refine Spl.mk (fun h=>?_) (fun h=>?_))))
 (repeat' ((conv=>whnf);first|with_reducible refine gA ?_|((with_reducible refine QB ?_); refine CallE.con ⟨_, hct, ?_⟩)|(with_reducible first|refine gB ?_|refine gZ (fun x hx hu=>?_)|refine gY (fun x hx=>?_)|refine gE ?_|refine QC.mk ?_ ?_|refine gS (fun h=>?_) (fun h=>?_)|refine Spl.nt ?_|refine Spl.mk (fun h=>?_) (fun h=>?_))))
 refine Qw.intro QA QOO rfl rfl ?_
 (repeat' ((conv=>whnf);first|with_reducible refine gA ?_|((with_reducible refine QB ?_); refine CallE.con ⟨_, hct, ?_⟩)|(with_reducible first|refine gB ?_|refine gZ (fun x hx hu=>?_)|refine gY (fun x hx=>?_)|refine gE ?_|refine QC.mk ?_ ?_|refine gS (fun h=>?_) (fun h=>?_)|refine Spl.nt ?_|refine Spl.mk (fun h=>?_) (fun h=>?_))))
 conv => whnf
 refine Qt.wk (τ := faB Tryz.f53 m ws) (Wk.enF (ai rfl (ai rfl (ai rfl (ai rfl (ai rfl (ai rfl trivial)))))) (by (repeat (first | exact trivial | refine ai (QN rfl (by with_unfolding_all exact rfl)) ?_ | refine ai (QM (by with_unfolding_all exact rfl) (by (repeat (first | exact trivial | refine ai (by with_unfolding_all exact rfl) ?_)))) ?_))) rfl) ?_
 refine QV QA (fun t : Nat => t ≤ cpw ws.length) (faA Tryz.f53 ws) (fun t => cpw ws.length - t) 0 (Nat.zero_le _) (Wk.trans (Wk.nlTs 4 0 1 1 68 (by with_unfolding_all exact rfl) (by with_unfolding_all exact rfl)) (Wk.en ⟨ai rfl (ai rfl (ai rfl (ai rfl (ai rfl (ai rfl trivial))))), (by (repeat (first | exact trivial | refine ai rfl ?_))), rfl⟩)) ?_
 intro t ht
 have hln := QFk ws t
 by_cases htn : t < cpw ws.length
 ·have hnt : FnC Tryz.prog 130 [.d (.it .u64 (t : Nat)), .d (.it .i64 ((ws.map Zi).length : Nat)), .d (.bl false)] (.d (.it .u64 (Q5 t ws.length : Nat))) := by rw [hwl']; exact QLT t ws.length hwl htn
  have hal := QHx (esW ws) (by rw [Jo]; exact hwl) t (by omega)
  rw [Jo] at hal
  by_cases hA : YD (esW ws) t
  ·rw [decide_eq_true hA] at hal
   have hy := QFl hA
   (repeat' ((conv=>whnf);first|with_reducible refine gA ?_|((with_reducible refine QB ?_); first | refine CallE.con ⟨_, hnt, ?_⟩ | refine CallE.con ⟨_, hal, ?_⟩) | ((with_reducible refine Y6 ?_); refine Qc.as (Zp (by omega)) ?_) | with_reducible refine ZD.intro QA (by with_unfolding_all exact rfl) (by with_unfolding_all exact rfl) (by with_unfolding_all exact rfl) ?_|(with_reducible first|refine gB ?_|refine gZ (fun x hx hu=>?_)|refine gY (fun x hx=>?_)|refine gE ?_|refine QC.mk ?_ ?_|refine gS (fun h=>?_) (fun h=>?_)|refine Spl.nt ?_|refine Spl.mk (fun h=>?_) (fun h=>?_))))
   all_goals first | (exfalso; omega) | skip
   refine ⟨t + 1, htn, by first | omega | (dsimp only; omega), QJ8 hy (Wk.enF (ai rfl (ai rfl (ai rfl (ai rfl (ai rfl (ai (QG (by omega)) trivial)))))) (by (repeat (first | exact trivial | refine ai (QN rfl (by with_unfolding_all exact rfl)) ?_ | refine ai (QM (by with_unfolding_all exact rfl) (by (repeat (first | exact trivial | refine ai (by with_unfolding_all exact rfl) ?_)))) ?_))) rfl)⟩
  ·rw [decide_eq_false hA] at hal
   have hy := QH1 hA
   (repeat' ((conv=>whnf);first|with_reducible refine gA ?_|((with_reducible refine QB ?_); first | refine CallE.con ⟨_, hnt, ?_⟩ | refine CallE.con ⟨_, hal, ?_⟩) | ((with_reducible refine Y6 ?_); refine Qc.as (Zp (by omega)) ?_)|(with_reducible first|refine gB ?_|refine gZ (fun x hx hu=>?_)|refine gY (fun x hx=>?_)|refine gE ?_|refine QC.mk ?_ ?_|refine gS (fun h=>?_) (fun h=>?_)|refine Spl.nt ?_|refine Spl.mk (fun h=>?_) (fun h=>?_))))
   all_goals first | (exfalso; omega) | skip
   refine ⟨t + 1, htn, by first | omega | (dsimp only; omega), QJ8 hy (Wk.enF (ai rfl (ai rfl (ai rfl (ai rfl (ai rfl (ai (QG (by omega)) trivial)))))) (by (repeat (first | exact trivial | refine ai (QN rfl (by with_unfolding_all exact rfl)) ?_ | refine ai (QM (by with_unfolding_all exact rfl) (by (repeat (first | exact trivial | refine ai (by with_unfolding_all exact rfl) ?_)))) ?_))) rfl)⟩
 ·have hte : t = cpw ws.length := by omega
  subst hte
  (repeat' ((conv=>whnf);first|with_reducible refine gA ?_|(with_reducible first|refine gB ?_|refine gZ (fun x hx hu=>?_)|refine gY (fun x hx=>?_)|refine gE ?_|refine QC.mk ?_ ?_|refine gS (fun h=>?_) (fun h=>?_)|refine Spl.nt ?_|refine Spl.mk (fun h=>?_) (fun h=>?_))))
  refine ⟨⟨[(6, .ptr 2 0), (7, .ptr 3 0)], [(2, .cells 1 [.d (.fs 1 (XO ws (cpw ws.length)))]), (3, .cells 1 [.d (.bl true)])], 40⟩, Wk.vwL (ai (Vw.eq rfl) (ai (Vw.eq rfl) trivial)) (ai (VwO.cell _ _ (Vw.ts' rfl) rfl) (ai (VwO.cell _ _ (Vw.eq rfl) rfl) trivial)) rfl, ?_⟩
  rfl
theorem QH5 {b : Bool} {A B : Prop} (h : Spl b A B) : Spl b A B := h
theorem QOl {b : Bool} (h : b = true) : (!b) = false := by rw [h]; rfl
theorem QOm {b : Bool} (h : b = false) : (!b) = true := by rw [h]; rfl
theorem QJ9 (l : List (List UInt8)) (h : 1 ≤ l.length ∧ l.length ≤ 65) : FnC Tryz.prog 30 [.d (.fs 32 (l.map QO))] (.tup [.d (Zc (some ⟨0, l, [], [], 0⟩)), .d (.it .i64 0)]) := by
 have hl : (l.map QO).length = l.length := List.length_map ..
 have hne : (l.map QO).isEmpty = false := by
  cases l with
  | nil => simp at h
  | cons => rfl
 refine FnC.introW QA Tryz.func30 rfl Tryz.ntmps30 Tryz.call30 rfl (bll rfl) rfl ?_
 (repeat' ((conv=>whnf);first|with_reducible refine gA ?_|((with_reducible refine QB ?_); refine CallE.inl ?_) | with_reducible refine CallI.inl QA i71 rfl ?_ | with_reducible refine CallI.inl QA i66 rfl ?_ | with_reducible refine Spl.no hne ?_|(with_reducible first|refine gB ?_|refine gZ (fun x hx hu=>?_)|refine gY (fun x hx=>?_)|refine gE ?_|refine QC.mk ?_ ?_|refine gS (fun h=>?_) (fun h=>?_)|refine Spl.nt ?_|refine Spl.mk (fun h=>?_) (fun h=>?_))))
 refine ⟨⟨[(2, .d (.fp 6 (QFW ⟨0, l, [], [], 0⟩))), (3, .d (.it .i64 0))], [], 8⟩, Wk.trans (Wk.vwL (τ := ⟨[(2, .ptr 6 0), (3, .d (.it .i64 0))], [(6, .cells 6 ((QFW ⟨0, l, [], [], 0⟩).map AV.d))], 8⟩) (ai (Vw.eq (by with_unfolding_all exact rfl)) (ai (Vw.eq (by with_unfolding_all exact rfl)) trivial)) ?_ rfl) (Wk.frzPL 6 6 ((QFW ⟨0, l, [], [], 0⟩).map AV.d) rfl (ai ⟨_, rfl, .inr ⟨QFW ⟨0, l, [], [], 0⟩, rfl, rfl, rfl⟩⟩ (ai ⟨_, rfl, .inl rfl⟩ trivial)) trivial rfl), ?_⟩
 ·exact ai (VwO.cells _ _ _ (.cons (Vw.an _ rfl) rfl (.cons (Vw.eq rfl) rfl (.cons (Vw.ts' rfl) rfl (.cons (Vw.nl' rfl) rfl (.cons (Vw.nl' rfl) rfl (.cons (Vw.eq rfl) rfl .nil))))))) trivial
 ·rfl
theorem QFo (l : List (List UInt8)) (h : ¬ (1 ≤ l.length ∧ l.length ≤ 65)) : FnC Tryz.prog 30 [.d (.fs 32 (l.map QO))] (.tup [.d (.ot (.pointer none)), .d (.it .i64 1)]) := by
 have hl : (l.map QO).length = l.length := List.length_map ..
 refine FnC.intro QA Tryz.func30 rfl Tryz.ntmps30 Tryz.call30 rfl (bll rfl) rfl ?_
 (repeat' ((conv=>whnf);first|with_reducible refine gA ?_|((with_reducible refine QB ?_); refine CallE.inl ?_) | with_reducible refine CallI.inl QA i71 rfl ?_|(with_reducible first|refine gB ?_|refine gZ (fun x hx hu=>?_)|refine gY (fun x hx=>?_)|refine gE ?_|refine QC.mk ?_ ?_|refine gS (fun h=>?_) (fun h=>?_)|refine Spl.nt ?_|refine Spl.mk (fun h=>?_) (fun h=>?_))))
 all_goals first | (exfalso; omega) | rfl
theorem QLh (l : List (List UInt8)) (n : Int) (h0 : 0 ≤ n) : rdS (some ⟨0, l, [], [], 0⟩) n = imS l n := by
 unfold rdS imS
 show (if 0 ≤ n ∧ n < l.length then l.getD n.toNat Qk else Qk) = l.getD n.toNat Qk
 split
 ·rfl
 ·rw [List.getD_eq_getElem?_getD, List.getElem?_eq_none (by omega)]; rfl
def YF (m : List (List UInt8)) (ws : List Wr) (k : Nat) : List Nod := (Zo (imS (Zw m ws k ws.length))).1
theorem QKA (m : List (List UInt8)) (hm : Z7 m) (h : 1 ≤ m.length ∧ m.length ≤ 65) (ws : List Wr) (hw : Xj ws) (hwl : ws.length ≤ 8) (k : Nat) (hk : k < 256) (hA : YD (esW ws) k) (hR : J9 m ws) : FnC Tryz.prog 54 [.dg 2 (Qh m ws), .d (.it .u64 (Q5 k ws.length : Nat))] (.tup [.d (.fs 3 ((YF m ws k).map QE)), .d (.bl true)]) := by
 have h1 := QH3 m hm (by omega) ws hw hwl k hk hA hR (fun e => by rw [e] at h; simp at h)
 have hl := YE m ws k ws.length
 have h2 := QJ9 (Zw m ws k ws.length) (by omega)
 have hI := Jr hm hw k ws.length
 have h3 := QLc (some ⟨0, Zw m ws k ws.length, [], [], 0⟩) ⟨hI, (fun w hw => by cases hw), by show (Zw m ws k ws.length).length ≤ 65; omega, by show (0 : Nat) ≤ 100000; omega⟩
 rw [QLe (fun n hn => QLh (Zw m ws k ws.length) n hn)] at h3
 have h3 : FnC Tryz.prog 31 [.d (Zc (some ⟨0, Zw m ws k ws.length, [], [], 0⟩))] (.tup [.d (.fs 3 ((YF m ws k).map QE)), .d (.bl (Zo (imS (Zw m ws k ws.length))).2)]) := h3
 refine FnC.intro QA Tryz.func54 rfl Tryz.ntmps54 Tryz.call54 rfl (bll rfl) rfl ?_
 (repeat' ((conv=>whnf);first|with_reducible refine gA ?_|((with_reducible refine QB ?_); first | refine CallE.con ⟨_, h1, ?_⟩ | refine CallE.con ⟨_, h2, ?_⟩ | refine CallE.con ⟨_, h3, ?_⟩)|(with_reducible first|refine gB ?_|refine gZ (fun x hx hu=>?_)|refine gY (fun x hx=>?_)|refine gE ?_|refine QC.mk ?_ ?_|refine gS (fun h=>?_) (fun h=>?_)|refine Spl.nt ?_|refine Spl.mk (fun h=>?_) (fun h=>?_))))
 rfl
theorem QIl (m : List (List UInt8)) (ws : List Wr) (hw : Xj ws) (hwl : ws.length ≤ 8) (k : Nat) (hk : k < 256) (hR : ¬ J9 m ws) : FnC Tryz.prog 54 [.dg 2 (Qh m ws), .d (.it .u64 (Q5 k ws.length : Nat))] (.tup [.d (.fs 3 []), .d (.bl false)]) := by
 have h1 := QLf m ws hw hwl k hk hR
 refine FnC.intro QA Tryz.func54 rfl Tryz.ntmps54 Tryz.call54 rfl (bll rfl) rfl ?_
 (repeat' ((conv=>whnf);first|with_reducible refine gA ?_|((with_reducible refine QB ?_); first | refine CallE.con ⟨_, h1, ?_⟩)|(with_reducible first|refine gB ?_|refine gZ (fun x hx hu=>?_)|refine gY (fun x hx=>?_)|refine gE ?_|refine QC.mk ?_ ?_|refine gS (fun h=>?_) (fun h=>?_)|refine Spl.nt ?_|refine Spl.mk (fun h=>?_) (fun h=>?_))))
 rfl
theorem QIm (m : List (List UInt8)) (hm : Z7 m) (hml : m.length ≤ 1000) (h : 65 < m.length) (ws : List Wr) (hw : Xj ws) (hwl : ws.length ≤ 8) (k : Nat) (hk : k < 256) (hA : YD (esW ws) k) (hR : J9 m ws) : FnC Tryz.prog 54 [.dg 2 (Qh m ws), .d (.it .u64 (Q5 k ws.length : Nat))] (.tup [.d (.fs 3 []), .d (.bl false)]) := by
 have h1 := QH3 m hm hml ws hw hwl k hk hA hR (fun e => by rw [e] at h; simp at h)
 have hl := YE m ws k ws.length
 have h2 := QFo (Zw m ws k ws.length) (by omega)
 refine FnC.intro QA Tryz.func54 rfl Tryz.ntmps54 Tryz.call54 rfl (bll rfl) rfl ?_
 (repeat' ((conv=>whnf);first|with_reducible refine gA ?_|((with_reducible refine QB ?_); first | refine CallE.con ⟨_, h1, ?_⟩ | refine CallE.con ⟨_, h2, ?_⟩)|(with_reducible first|refine gB ?_|refine gZ (fun x hx hu=>?_)|refine gY (fun x hx=>?_)|refine gE ?_|refine QC.mk ?_ ?_|refine gS (fun h=>?_) (fun h=>?_)|refine Spl.nt ?_|refine Spl.mk (fun h=>?_) (fun h=>?_))))
 rfl
theorem QIn : FnC Tryz.prog 54 [.dg 2 (Qh [] []), .d (.it .u64 0)] (.tup [.d (.fs 3 []), .d (.bl false)]) := by
 have ha := QCm [] [] (fun w hw => by cases hw) (by decide) 0 (by decide)
 rw [decide_eq_true (by decide)] at ha
 have ha : FnC Tryz.prog 64 [.dg 2 (Qh [] []), .d (.it .u64 0)] (.d (.bl true)) := ha
 have h2 := QFo [] (by simp)
 refine FnC.intro QA Tryz.func54 rfl Tryz.ntmps54 Tryz.call54 rfl (bll rfl) rfl ?_
 (repeat' ((conv=>whnf);first|with_reducible refine gA ?_|((with_reducible refine QB ?_); first | refine CallE.con ⟨_, ha, ?_⟩ | refine CallE.con ⟨_, h2, ?_⟩ | refine CallE.inl ?_) | ((with_reducible refine ZB ?_); first | with_reducible refine CallI.inl QA i28 rfl ?_ | with_reducible refine CallI.inl QA i65 rfl ?_ | with_reducible refine CallI.inl QA QMc rfl ?_ | with_reducible refine CallI.inl QA i66 rfl ?_) | with_reducible refine Qt.unroll QA 1 ?_|(with_reducible first|refine gB ?_|refine gZ (fun x hx hu=>?_)|refine gY (fun x hx=>?_)|refine gE ?_|refine QC.mk ?_ ?_|refine gS (fun h=>?_) (fun h=>?_)|refine Spl.nt ?_|refine Spl.mk (fun h=>?_) (fun h=>?_))))
 all_goals rfl
theorem QLi (a b : List Nod) (ha : a.length ≤ 100000) : FnC Tryz.prog 57 [.d (.fs 3 (a.map QE)), .d (.fs 3 (b.map QE))] (.d (.bl (decide (a = b)))) := by
 refine FnC.intro QA Tryz.func57 rfl Tryz.ntmps57 Tryz.call57 rfl (bll rfl) rfl ?_
 have hla : (a.map QE).length = a.length := List.length_map ..
 have hlb : (b.map QE).length = b.length := List.length_map ..
 by_cases he : a.length = b.length
 ·(repeat' ((conv=>whnf);first|with_reducible refine gA ?_|(with_reducible first|refine gB ?_|refine gZ (fun x hx hu=>?_)|refine gY (fun x hx=>?_)|refine gE ?_|refine QC.mk ?_ ?_|refine gS (fun h=>?_) (fun h=>?_)|refine Spl.nt ?_|refine Spl.mk (fun h=>?_) (fun h=>?_))))
  refine QT QA (fun k : Nat => k ≤ a.length ∧ a.take k = b.take k) (fun k => ⟨[(0, .d (.fs 3 (a.map QE))), (1, .d (.fs 3 (b.map QE))), (12, .d (.it .i64 (a.length : Nat))), (13, .d (.it .i64 (k : Nat)))], [], 0⟩) (fun k => a.length - k) 0 ⟨Nat.zero_le _, rfl⟩ ⟨ai rfl (ai rfl (ai (QG (by rw [hla])) (ai rfl trivial))), trivial, rfl⟩ ?_
  intro k ⟨k1, k2⟩
  rcases Nat.lt_or_ge k a.length with hkl | hkl
  ·obtain ⟨x, hx⟩ := QX hkl
   obtain ⟨y, hy⟩ := QX (l := b) (k := k) (by omega)
   have hq : Xw (QE x) (QE y) = decide (x = y) := QJ4 x y
   by_cases hxy : x = y
   ·rw [decide_eq_true hxy] at hq
    (repeat' ((conv=>whnf);first|with_reducible refine gA ?_|((with_reducible refine QH5 ?_); refine Spl.no (QOl hq) ?_)|(with_reducible first|refine gB ?_|refine gZ (fun x hx hu=>?_)|refine gY (fun x hx=>?_)|refine gE ?_|refine QC.mk ?_ ?_|refine gS (fun h=>?_) (fun h=>?_)|refine Spl.nt ?_|refine Spl.mk (fun h=>?_) (fun h=>?_))))
    refine again (k + 1) ⟨by omega, ?_⟩ (by dsimp only; omega) (ai rfl (ai rfl (ai rfl (ai (QG (by omega)) trivial)))) trivial rfl
    rw [Qb hx, Qb hy, k2, hxy]
   ·rw [decide_eq_false hxy] at hq
    (repeat' ((conv=>whnf);first|with_reducible refine gA ?_|((with_reducible refine QH5 ?_); refine Spl.yes (QOm hq) ?_)|(with_reducible first|refine gB ?_|refine gZ (fun x hx hu=>?_)|refine gY (fun x hx=>?_)|refine gE ?_|refine QC.mk ?_ ?_|refine gS (fun h=>?_) (fun h=>?_)|refine Spl.nt ?_|refine Spl.mk (fun h=>?_) (fun h=>?_))))
    refine XI (decide_eq_false fun hab => hxy ?_).symm
    rw [hab, hy] at hx
    exact (Option.some.inj hx).symm
  ·(repeat' ((conv=>whnf);first|with_reducible refine gA ?_|(with_reducible first|refine gB ?_|refine gZ (fun x hx hu=>?_)|refine gY (fun x hx=>?_)|refine gE ?_|refine QC.mk ?_ ?_|refine gS (fun h=>?_) (fun h=>?_)|refine Spl.nt ?_|refine Spl.mk (fun h=>?_) (fun h=>?_))))
   exact XI (decide_eq_true (QDu k2 hkl (by omega))).symm
 ·(repeat' ((conv=>whnf);first|with_reducible refine gA ?_|(with_reducible first|refine gB ?_|refine gZ (fun x hx hu=>?_)|refine gY (fun x hx=>?_)|refine gE ?_|refine QC.mk ?_ ?_|refine gS (fun h=>?_) (fun h=>?_)|refine Spl.nt ?_|refine Spl.mk (fun h=>?_) (fun h=>?_))))
  exact XI (decide_eq_false fun hab => he (by rw [hab])).symm
def XC {α : Type} [DecidableEq α] (out : List α) (t : α) : List α := if t ∈ out then out else out ++ [t]
def trT (m : List (List UInt8)) (ws : List Wr) (j : Nat) : List (List Nod) := (((Zv ws (cpw ws.length)).take j).map (YF m ws)).foldl XC []
def Qv (L : List (List Nod)) : List (List D) := L.map fun t => [.fs 3 (t.map QE)]
theorem QAz {m : List (List UInt8)} {ws : List Wr} {j k : Nat} (h : (Zv ws (cpw ws.length))[j]? = some k) : trT m ws (j + 1) = XC (trT m ws j) (YF m ws k) := by
 unfold trT
 rw [Qb h, List.map_append, List.foldl_append]; rfl
theorem QCM (m : List (List UInt8)) (ws : List Wr) : ∀ j, (trT m ws j).length ≤ j
 | 0 => Nat.le_refl _
 | j + 1 => by
  have ih := QCM m ws j
  cases h : (Zv ws (cpw ws.length))[j]? with
  | none =>
   have : trT m ws (j + 1) = trT m ws j := by
    unfold trT
    rw [List.take_of_length_le (by rw [List.getElem?_eq_none_iff] at h; omega), List.take_of_length_le (by rw [List.getElem?_eq_none_iff] at h; omega)]
   rw [this]; omega
  | some k =>
   rw [QAz h]
   unfold XC
   split
   ·omega
   ·rw [List.length_append, List.length_singleton]; omega
theorem QEe {ws : List Wr} {t j k : Nat} (h : (Zv ws t)[j]? = some k) : k < t ∧ YD (esW ws) k := by
 have hm := List.mem_of_getElem? h
 unfold Zv at hm
 obtain ⟨h1, h2⟩ := List.mem_filter.1 hm
 exact ⟨List.mem_range.1 h1, of_decide_eq_true h2⟩
theorem QEf {ws : List Wr} {t j k : Nat} (h : (Zv ws t)[j]? = some k) : (XO ws t)[j]? = some [.it .u64 (Q5 k ws.length : Nat)] := by
 unfold XO vU
 rw [List.getElem?_map, List.getElem?_map, h]; rfl
theorem QBT (ws : List Wr) (t : Nat) : (XO ws t).length = (Zv ws t).length := by
 unfold XO vU
 rw [List.length_map, List.length_map]
def tsA (m : List (List UInt8)) (ws : List Wr) (j : Nat) : S := ⟨[(1, .ptr 0 0), (6, .ts 1 (Qv (trT m ws j)) 2), (18, .d (.fs 1 (XO ws (cpw ws.length)))), (19, .d (.it .i64 ((XO ws (cpw ws.length)).length : Nat))), (20, .d (.it .i64 (j : Nat)))], [(0, .cells 2 ((Qh m ws).map .d)), (2, .tail 62 true)], 3⟩
theorem QCr {α : Type} [DecidableEq α] {l : List α} {t x : α} : x ∈ XC l t ↔ x ∈ l ∨ x = t := by
 unfold XC
 split
 ·rename_i h
  exact ⟨.inl, fun hx => hx.elim id fun e => e ▸ h⟩
 ·simp
theorem Js (m : List (List UInt8)) (ws : List Wr) : ∀ j, ∀ x ∈ trT m ws j, ∃ k, x = YF m ws k
 | 0, x, h => by cases h
 | j + 1, x, h => by
  cases hk : (Zv ws (cpw ws.length))[j]? with
  | none =>
   have e : trT m ws (j + 1) = trT m ws j := by
    unfold trT
    rw [List.take_of_length_le (by rw [List.getElem?_eq_none_iff] at hk; omega), List.take_of_length_le (by rw [List.getElem?_eq_none_iff] at hk; omega)]
   rw [e] at h
   exact Js m ws j x h
  | some k =>
   rw [QAz hk, QCr] at h
   rcases h with h | h
   ·exact Js m ws j x h
   ·exact ⟨k, h⟩
theorem Yu (m : List (List UInt8)) (ws : List Wr) (k : Nat) : (YF m ws k).length ≤ 64 := QIk _
def tsB (m : List (List UInt8)) (ws : List Wr) (L : List (List Nod)) (T : List Nod) (j q : Nat) : S := ⟨[(0, .ts 1 (Qv L) 2), (1, .fn (.func 56) [] [.ptr 3 0]), (7, .d (.it .i64 ((Qv L).length : Nat))), (8, .d (.it .i64 (q : Nat)))],
 [(5, .frame 10 []), (4, .frame 43 [(1, .ptr 0 0), (6, .ts 1 (Qv L) 2), (9, .ptr 3 0), (18, .d (.fs 1 (XO ws (cpw ws.length)))), (19, .d (.it .i64 ((XO ws (cpw ws.length)).length : Nat))), (20, .d (.it .i64 (j : Nat)))]), (3, .cells 1 [.d (.fs 3 (T.map QE))]), (0, .cells 2 ((Qh m ws).map .d)), (2, .tail 62 true)], 6⟩
theorem QKB {m : List (List UInt8)} {ws : List Wr} {l : List (List D)} {t : Nat} {N : Nat} {σ : S} (h : Qv (trT m ws t) = l) (k : Wk N σ ⟨[(1, .ptr 0 0), (6, .ts 1 l 2), (18, .d (.fs 1 (XO ws (cpw ws.length)))), (19, .d (.it .i64 ((XO ws (cpw ws.length)).length : Nat))), (20, .d (.it .i64 (t : Nat)))], [(0, .cells 2 ((Qh m ws).map .d)), (2, .tail 62 true)], 3⟩) : Wk N σ (tsA m ws t) := by unfold tsA; rw [h]; exact k
theorem QIo (m : List (List UInt8)) (hm : Z7 m) (h : 1 ≤ m.length ∧ m.length ≤ 65) (ws : List Wr) (hw : Xj ws) (hwl : ws.length ≤ 8) (hR : J9 m ws) : FnC Tryz.prog 21 [.dg 2 (Qh m ws)] (.tup [.d (.fs 1 (Qv (trT m ws (Zv ws (cpw ws.length)).length))), .d (.bl true)]) := by
 have hall := QH4 m ws hw hwl
 have hpn := YC hwl
 have hkl := QAv ws (cpw ws.length)
 have hnl := QBT ws (cpw ws.length)
 refine FnC.intro QA Tryz.func21 rfl Tryz.ntmps21 Tryz.call21 rfl (bll rfl) rfl ?_
 (repeat' ((conv=>whnf);first|with_reducible refine gA ?_|((with_reducible refine QB ?_); first | refine CallE.con ⟨_, hall, ?_⟩)|(with_reducible first|refine gB ?_|refine gZ (fun x hx hu=>?_)|refine gY (fun x hx=>?_)|refine gE ?_|refine QC.mk ?_ ?_|refine gS (fun h=>?_) (fun h=>?_)|refine Spl.nt ?_|refine Spl.mk (fun h=>?_) (fun h=>?_))))
 refine QV QA (fun j : Nat => j ≤ (Zv ws (cpw ws.length)).length) (tsA m ws) (fun j => (Zv ws (cpw ws.length)).length - j) 0 (Nat.zero_le _) (Wk.en ⟨ai rfl (ai rfl (ai rfl (ai rfl (ai rfl trivial)))), ai rfl (ai rfl trivial), rfl⟩) ?_
 intro j hj
 have htl := QCM m ws j
 by_cases hjn : j < (Zv ws (cpw ws.length)).length
 ·obtain ⟨k, hk⟩ := QX hjn
  obtain ⟨k1, k2⟩ := QEe hk
  have hx := QEf hk
  have hct := QKA m hm h ws hw hwl k (by omega) k2 hR
  (repeat' ((conv=>whnf);first|with_reducible refine gA ?_|((with_reducible refine QB ?_); first | refine CallE.con ⟨_, hct, ?_⟩ | refine CallE.inl ?_) | with_reducible refine AtA.mk' ?_ | refine Q0 hx ?_ | ((with_reducible refine ZB ?_); first | with_reducible refine CallI.inl QA i55 rfl ?_ | with_reducible refine CallI.inl QA i99 rfl ?_)|(with_reducible first|refine gB ?_|refine gZ (fun x hx hu=>?_)|refine gY (fun x hx=>?_)|refine gE ?_|refine QC.mk ?_ ?_|refine gS (fun h=>?_) (fun h=>?_)|refine Spl.nt ?_|refine Spl.mk (fun h=>?_) (fun h=>?_))))
  conv => whnf
  have hsc := QAz (m := m) hk
  have hTl := Yu m ws k
  have hLm := Js m ws j
  refine QV QA (fun q : Nat => q ≤ (trT m ws j).length ∧ YF m ws k ∉ (trT m ws j).take q) (tsB m ws (trT m ws j) (YF m ws k) j) (fun q => (trT m ws j).length - q) 0 ⟨Nat.zero_le _, by simp⟩ (Wk.enF (ai rfl (ai rfl (ai rfl (ai rfl trivial)))) (by (repeat (first | exact trivial | refine ai (QN rfl (by with_unfolding_all exact rfl)) ?_ | refine ai (QM (by with_unfolding_all exact rfl) (by (repeat (first | exact trivial | refine ai (by with_unfolding_all exact rfl) ?_)))) ?_))) rfl) ?_
  intro q ⟨hq, hno⟩
  have hel : (Qv (trT m ws j)).length = (trT m ws j).length := List.length_map ..
  generalize YF m ws k = T at *
  by_cases hqn : q < (trT m ws j).length
  ·obtain ⟨x, hxq⟩ := QX hqn
   have hxl : x.length ≤ 64 := by
    obtain ⟨k', e⟩ := hLm x (List.mem_of_getElem? hxq)
    rw [e]; exact Yu m ws k'
   have hxe : (Qv (trT m ws j))[q]? = some [.fs 3 (x.map QE)] := by unfold Qv; rw [List.getElem?_map, hxq]; rfl
   have heq := QLi x T (by omega)
   unfold tsB
   generalize hLL : Qv (trT m ws j) = LL at *
   by_cases hxT : x = T
   ·rw [decide_eq_true hxT] at heq
    have hin : T ∈ trT m ws j := hxT ▸ List.mem_of_getElem? hxq
    have he1 : Qv (trT m ws (j + 1)) = LL := by rw [hsc]; unfold XC; rw [if_pos hin, hLL]
    (repeat' ((conv=>whnf);first|with_reducible refine gA ?_|refine Q0 hxe ?_ | with_reducible refine AtA.mk' ?_ | ((with_reducible refine QB ?_); first | refine CallE.con ⟨_, heq, ?_⟩ | refine CallE.inl ?_) | ((with_reducible refine ZB ?_); with_reducible refine CallI.inl QA i56 rfl ?_)|(with_reducible first|refine gB ?_|refine gZ (fun x hx hu=>?_)|refine gY (fun x hx=>?_)|refine gE ?_|refine QC.mk ?_ ?_|refine gS (fun h=>?_) (fun h=>?_)|refine Spl.nt ?_|refine Spl.mk (fun h=>?_) (fun h=>?_))))
    refine ⟨j + 1, hjn, by first | omega | (dsimp only; omega), QKB he1 (Wk.enF (ai rfl (ai rfl (ai rfl (ai rfl (ai (QG (by omega)) trivial))))) (by (repeat (first | exact trivial | refine ai (QN rfl (by with_unfolding_all exact rfl)) ?_ | refine ai (QM (by with_unfolding_all exact rfl) (by (repeat (first | exact trivial | refine ai (by with_unfolding_all exact rfl) ?_)))) ?_))) rfl)⟩
   ·rw [decide_eq_false hxT] at heq
    (repeat' ((conv=>whnf);first|with_reducible refine gA ?_|refine Q0 hxe ?_ | with_reducible refine AtA.mk' ?_ | ((with_reducible refine QB ?_); first | refine CallE.con ⟨_, heq, ?_⟩ | refine CallE.inl ?_) | ((with_reducible refine ZB ?_); with_reducible refine CallI.inl QA i56 rfl ?_)|(with_reducible first|refine gB ?_|refine gZ (fun x hx hu=>?_)|refine gY (fun x hx=>?_)|refine gE ?_|refine QC.mk ?_ ?_|refine gS (fun h=>?_) (fun h=>?_)|refine Spl.nt ?_|refine Spl.mk (fun h=>?_) (fun h=>?_))))
    refine ⟨q + 1, ⟨hqn, ?_⟩, by first | omega | (dsimp only; omega), Wk.enF (ai rfl (ai rfl (ai rfl (ai (QG (by omega)) trivial)))) (by (repeat (first | exact trivial | refine ai (QN rfl (by with_unfolding_all exact rfl)) ?_ | refine ai (QM (by with_unfolding_all exact rfl) (by (repeat (first | exact trivial | refine ai (by with_unfolding_all exact rfl) ?_)))) ?_))) rfl⟩
    rw [Qb hxq]
    intro hmem
    rcases List.mem_append.1 hmem with hmem | hmem
    ·exact hno hmem
    ·exact hxT (List.mem_singleton.1 hmem).symm
  ·have hnot : T ∉ trT m ws j := by rwa [show (trT m ws j).take q = trT m ws j by rw [List.take_of_length_le (by omega)]] at hno
   have he1 : Qv (trT m ws (j + 1)) = Qv (trT m ws j) ++ [[.fs 3 (T.map QE)]] := by rw [hsc]; unfold XC; rw [if_neg hnot]; unfold Qv; rw [List.map_append]; rfl
   unfold tsB
   generalize hLL : Qv (trT m ws j) = LL at *
   (repeat' ((conv=>whnf);first|with_reducible refine gA ?_|with_reducible refine AtA.mk' ?_|(with_reducible first|refine gB ?_|refine gZ (fun x hx hu=>?_)|refine gY (fun x hx=>?_)|refine gE ?_|refine QC.mk ?_ ?_|refine gS (fun h=>?_) (fun h=>?_)|refine Spl.nt ?_|refine Spl.mk (fun h=>?_) (fun h=>?_))))
   refine ⟨j + 1, hjn, by first | omega | (dsimp only; omega), QKB he1 (Wk.enF (ai rfl (ai rfl (ai rfl (ai rfl (ai (QG (by omega)) trivial))))) (by (repeat (first | exact trivial | refine ai (QN rfl (by with_unfolding_all exact rfl)) ?_ | refine ai (QM (by with_unfolding_all exact rfl) (by (repeat (first | exact trivial | refine ai (by with_unfolding_all exact rfl) ?_)))) ?_))) rfl)⟩
 ·have hje : j = (Zv ws (cpw ws.length)).length := by omega
  subst hje
  (repeat' ((conv=>whnf);first|with_reducible refine gA ?_|(with_reducible first|refine gB ?_|refine gZ (fun x hx hu=>?_)|refine gY (fun x hx=>?_)|refine gE ?_|refine QC.mk ?_ ?_|refine gS (fun h=>?_) (fun h=>?_)|refine Spl.nt ?_|refine Spl.mk (fun h=>?_) (fun h=>?_))))
  rfl
def YG (m : List (List UInt8)) (ws : List Wr) : Prop := (1 ≤ m.length ∧ m.length ≤ 65) ∧ J9 m ws ∧ ws.length ≤ 8
instance (m : List (List UInt8)) (ws : List Wr) : Decidable (YG m ws) := by unfold YG; infer_instance
def Q6 (m : List (List UInt8)) (ws : List Wr) : List (List Nod) := if YG m ws then trT m ws (Zv ws (cpw ws.length)).length else []
theorem QKC (es : List Int) : YD es 0 := fun i hi j hj hd => by
 unfold dg at hd
 simp at hd
theorem QFp (ws : List Wr) (h : ws.length ≤ 8) : 0 < (Zv ws (cpw ws.length)).length := by
 have h0 : 0 ∈ Zv ws (cpw ws.length) := by
  unfold Zv
  refine List.mem_filter.2 ⟨List.mem_range.2 ?_, decide_eq_true (QKC _)⟩
  have := YC h
  omega
 exact List.length_pos_of_mem h0
theorem Yb {A B : Prop} (h : A ∧ B) : A ∧ B := h
theorem XD {l : List (List D)} {x : List D} {K : List D → Prop} (hx : l[0]? = some x) (h : K x) : (0 ≤ (0 : Int) ∧ (0 : Int) < l.length) ∧ ∀ c, l[(0 : Int).toNat]? = some c → K c :=
 ⟨⟨by decide, by have := (List.getElem?_eq_some_iff.1 hx).1; omega⟩, fun c hc => by have e : some x = some c := hx.symm.trans hc; rw [← Option.some.inj e]; exact h⟩
theorem QIp (m : List (List UInt8)) (hm : Z7 m) (hml : m.length ≤ 1000) (ws : List Wr) (hw : Xj ws) (h : ¬ YG m ws) : FnC Tryz.prog 21 [.dg 2 (Qh m ws)] (.tup [.d (.fs 1 []), .d (.bl false)]) := by
 by_cases hwl : ws.length ≤ 8
 ·have hall := QH4 m ws hw hwl
  have hpn := YC hwl
  have hpos := QFp ws hwl
  have hnl := QBT ws (cpw ws.length)
  obtain ⟨k, hk⟩ := QX hpos
  obtain ⟨k1, k2⟩ := QEe hk
  have hx := QEf hk
  have hct : FnC Tryz.prog 54 [.dg 2 (Qh m ws), .d (.it .u64 (Q5 k ws.length : Nat))] (.tup [.d (.fs 3 []), .d (.bl false)]) := by
   by_cases hR : J9 m ws
   ·by_cases hb : 65 < m.length
    ·exact QIm m hm hml hb ws hw hwl k (by omega) k2 hR
    ·have h0 : m = [] := by
      cases m with
      | nil => rfl
      | cons a t => exact absurd ⟨⟨by simp, by omega⟩, hR, hwl⟩ h
     subst h0
     have hws : ws = [] := by
      cases ws with
      | nil => rfl
      | cons w t => have := hR w List.mem_cons_self; simp at this; omega
     subst hws
     exact QIn
   ·exact QIl m ws hw hwl k (by omega) hR
  generalize XO ws (cpw ws.length) = LK at *
  refine FnC.intro QA Tryz.func21 rfl Tryz.ntmps21 Tryz.call21 rfl (bll rfl) rfl ?_
  (repeat' ((conv=>whnf);first|with_reducible refine gA ?_|((with_reducible refine QB ?_); first | refine CallE.con ⟨_, hall, ?_⟩ | refine CallE.con ⟨_, hct, ?_⟩) | with_reducible refine Qt.unroll QA 1 ?_ | ((with_reducible refine Yb ?_); refine XD hx ?_)|(with_reducible first|refine gB ?_|refine gZ (fun x hx hu=>?_)|refine gY (fun x hx=>?_)|refine gE ?_|refine QC.mk ?_ ?_|refine gS (fun h=>?_) (fun h=>?_)|refine Spl.nt ?_|refine Spl.mk (fun h=>?_) (fun h=>?_))))
  all_goals first | (exfalso; omega) | rfl
 ·have hall := QLZ m ws hwl
  refine FnC.intro QA Tryz.func21 rfl Tryz.ntmps21 Tryz.call21 rfl (bll rfl) rfl ?_
  (repeat' ((conv=>whnf);first|with_reducible refine gA ?_|((with_reducible refine QB ?_); first | refine CallE.con ⟨_, hall, ?_⟩)|(with_reducible first|refine gB ?_|refine gZ (fun x hx hu=>?_)|refine gY (fun x hx=>?_)|refine gE ?_|refine QC.mk ?_ ?_|refine gS (fun h=>?_) (fun h=>?_)|refine Spl.nt ?_|refine Spl.mk (fun h=>?_) (fun h=>?_))))
  rfl
theorem Y8 (m : List (List UInt8)) (hm : Z7 m) (hml : m.length ≤ 1000) (ws : List Wr) (hw : Xj ws) : FnC Tryz.prog 21 [.dg 2 (Qh m ws)] (.tup [.d (.fs 1 (Qv (Q6 m ws))), .d (.bl (decide (YG m ws)))]) := by
 by_cases h : YG m ws
 ·have := QIo m hm h.1 ws hw h.2.2 h.2.1
  rw [decide_eq_true h, show Q6 m ws = _ from if_pos h]
  exact this
 ·have := QIp m hm hml ws hw h
  rw [decide_eq_false h, show Q6 m ws = [] from if_neg h]
  exact this
def rtC (m : List (List UInt8)) (ws : List Wr) (i : Nat) : S := ⟨[(1, .ptr 0 0), (4, .d (.it .i64 (i : Nat)))], [(0, .cells 2 ((Qh m ws).map .d))], 2⟩
def rtA (m : List (List UInt8)) (ws : List Wr) (l : List (List D)) (j : Nat) : S := ⟨[(1, .ptr 0 0), (5, .d (.fs 1 (XO ws (cpw ws.length)))), (7, .ts 1 l 2), (8, .d (.it .i64 (j : Nat)))], [(0, .cells 2 ((Qh m ws).map .d)), (2, .tail 62 true)], 3⟩
theorem QKD {m : List (List UInt8)} {ws : List Wr} {l l' : List (List D)} {t : Nat} {N : Nat} {σ : S} (h : l' = l) (k : Wk N σ (rtA m ws l t)) : Wk N σ (rtA m ws l' t) := by rw [h]; exact k
def rtB (m : List (List UInt8)) (ws : List Wr) (l : List (List D)) (T : List Nod) (j q : Nat) (b : Bool) : S := ⟨[(1, .ptr 0 0), (5, .d (.fs 1 (XO ws (cpw ws.length)))), (7, .ts 1 l 2), (8, .d (.it .i64 (j : Nat))), (11, .d (.fs 3 (T.map QE))), (13, .d (.bl b)), (14, .d (.it .i64 (q : Nat)))], [(0, .cells 2 ((Qh m ws).map .d)), (2, .tail 62 true)], 3⟩
theorem QBU (m : List (List UInt8)) (hm : Z7 m) (hml : m.length ≤ 1000) (ws : List Wr) (hw : Xj ws) (hwb : ws.length ≤ 1000) : FnC Tryz.prog 22 [.dg 2 (Qh m ws)] (.tup [.d (.fs 1 (Qv (Q6 m ws))), .d (.bl (decide (YG m ws)))]) := by
 have hwl' : (ws.map Zi).length = ws.length := List.length_map ..
 have hml' : (m.map QO).length = m.length := List.length_map ..
 by_cases h : 1 ≤ m.length ∧ m.length ≤ 65
 ·refine FnC.intro QA Tryz.func22 rfl Tryz.ntmps22 Tryz.call22 rfl (bll rfl) rfl ?_
  (repeat' ((conv=>whnf);first|with_reducible refine gA ?_|(with_reducible first|refine gB ?_|refine gZ (fun x hx hu=>?_)|refine gY (fun x hx=>?_)|refine gE ?_|refine QC.mk ?_ ?_|refine gS (fun h=>?_) (fun h=>?_)|refine Spl.nt ?_|refine Spl.mk (fun h=>?_) (fun h=>?_))))
  all_goals first | (exfalso; omega) | skip
  conv => whnf
  refine QV QA (fun i : Nat => i ≤ ws.length ∧ J9 m (ws.take i)) (rtC m ws) (fun i => ws.length - i) 0 ⟨Nat.zero_le _, fun w hw' => by simp at hw'⟩ (Wk.en ⟨ai rfl (ai rfl trivial), ai rfl trivial, rfl⟩) ?_
  intro i ⟨hi, hRi⟩
  rcases Nat.lt_or_ge i ws.length with hil | hil
  ·obtain ⟨x, hx⟩ := QX hil
   have hxs := hw x (List.mem_of_getElem? hx)
   have hnx : 0 ≤ x.a ∧ x.a < m.length → J9 m (ws.take (i + 1)) := fun h y hy => by
    rw [Qb hx] at hy
    rcases List.mem_append.1 hy with hy | hy
    ·exact hRi y hy
    ·rw [List.mem_singleton.1 hy]; exact h
   have hst : ¬ (0 ≤ x.a ∧ x.a < m.length) → ¬ YG m ws := fun hn ho => hn (ho.2.1 x (List.mem_of_getElem? hx))
   have hst2 : ¬ (0 ≤ x.a ∧ x.a < m.length) → AV.tup [.d (.fs 1 []), .d (.bl false)] = .tup [.d (.fs 1 (Qv (Q6 m ws))), .d (.bl (decide (YG m ws)))] := fun hn => by
    rw [decide_eq_false (hst hn), show Q6 m ws = [] from if_neg (hst hn)]; rfl
   obtain ⟨xa, xs, xk, xi, xe⟩ := x
   obtain ⟨g, rfl⟩ := QGy hxs
   unfold rtC Qh
   (repeat' ((conv=>whnf);first|with_reducible refine gA ?_|with_reducible refine QAI hx ?_ | with_reducible refine AtA.mk' ?_|(with_reducible first|refine gB ?_|refine gZ (fun x hx hu=>?_)|refine gY (fun x hx=>?_)|refine gE ?_|refine QC.mk ?_ ?_|refine gS (fun h=>?_) (fun h=>?_)|refine Spl.nt ?_|refine Spl.mk (fun h=>?_) (fun h=>?_))))
   all_goals first
    | exact hst2 (by dsimp only at *; omega)
    | refine ⟨i + 1, ⟨hil, hnx (by dsimp only at *; omega)⟩, by first | omega | (dsimp only; omega), Wk.en ⟨ai rfl (ai (QG (by omega)) trivial), ai rfl trivial, rfl⟩⟩
  ·have hR : J9 m ws := by rw [show i = ws.length by omega, List.take_length] at hRi; exact hRi
   have hie : i = ws.length := by omega
   subst hie
   by_cases hwl : ws.length ≤ 8
   ·have hO : YG m ws := ⟨h, hR, hwl⟩
    rw [decide_eq_true hO, show Q6 m ws = _ from if_pos hO]
    have hall := QLX m ws hw hwl
    have hpn := YC hwl
    have hkl := QAv ws (cpw ws.length)
    have hnl := QBT ws (cpw ws.length)
    unfold rtC
    (repeat' ((conv=>whnf);first|with_reducible refine gA ?_|((with_reducible refine QB ?_); first | refine CallE.con ⟨_, hall, ?_⟩)|(with_reducible first|refine gB ?_|refine gZ (fun x hx hu=>?_)|refine gY (fun x hx=>?_)|refine gE ?_|refine QC.mk ?_ ?_|refine gS (fun h=>?_) (fun h=>?_)|refine Spl.nt ?_|refine Spl.mk (fun h=>?_) (fun h=>?_))))
    conv => whnf
    refine QV QA (fun j : Nat => j ≤ (Zv ws (cpw ws.length)).length) (fun j => rtA m ws (Qv (trT m ws j)) j) (fun j => (Zv ws (cpw ws.length)).length - j) 0 (Nat.zero_le _) ?_ ?_
    ·exact Wk.en ⟨ai rfl (ai rfl (ai rfl (ai rfl trivial))), ai rfl (ai rfl trivial), rfl⟩
    ·intro j hj
     have htl := QCM m ws j
     by_cases hjn : j < (Zv ws (cpw ws.length)).length
     ·obtain ⟨k, hk⟩ := QX hjn
      obtain ⟨k1, k2⟩ := QEe hk
      have hx := QEf hk
      have hi := QLg m hm hml ws hw hwl k (by omega) k2 hR
      have ht := QG5 (Zw m ws k ws.length) (Jr hm hw k ws.length)
      have ht : FnC Tryz.prog 60 [.d (Yh (Zw m ws k ws.length))] (.tup [.d (.fs 3 ((YF m ws k).map QE)), .d (.bl (Zo (imS (Zw m ws k ws.length))).2)]) := ht
      have hsc := QAz (m := m) hk
      have hTl := Yu m ws k
      have hLm := Js m ws j
      have hel : (Qv (trT m ws j)).length = (trT m ws j).length := List.length_map ..
      unfold rtA Qh
      unfold Qh at hi
      generalize hLL : Qv (trT m ws j) = LL at *
      (repeat' ((conv=>whnf);first|with_reducible refine gA ?_|((with_reducible refine XP ?_); first | refine Qe.mk ⟨_, hi, ?_⟩ | refine Qe.mk ⟨_, ht, ?_⟩) | ((with_reducible refine QB ?_); first | refine CallE.con ⟨_, hi, ?_⟩ | refine CallE.con ⟨_, ht, ?_⟩) | with_reducible refine AtA.mk' ?_ | refine Q0 hx ?_|(with_reducible first|refine gB ?_|refine gZ (fun x hx hu=>?_)|refine gY (fun x hx=>?_)|refine gE ?_|refine QC.mk ?_ ?_|refine gS (fun h=>?_) (fun h=>?_)|refine Spl.nt ?_|refine Spl.mk (fun h=>?_) (fun h=>?_))))
      conv => whnf
      generalize YF m ws k = T at *
      refine QV QA (fun q : Nat => q ≤ (trT m ws j).length) (fun q => rtB m ws LL T j q (decide (T ∈ (trT m ws j).take q))) (fun q => (trT m ws j).length - q) 0 (Nat.zero_le _) (Wk.en ⟨ai rfl (ai rfl (ai rfl (ai rfl (ai rfl (ai rfl (ai rfl trivial)))))), ai rfl (ai rfl trivial), rfl⟩) ?_
      intro q hq
      by_cases hqn : q < (trT m ws j).length
      ·obtain ⟨x, hxq⟩ := QX hqn
       have hxl : x.length ≤ 64 := by
        obtain ⟨k', e⟩ := hLm x (List.mem_of_getElem? hxq)
        rw [e]; exact Yu m ws k'
       have hxe : LL[q]? = some [.fs 3 (x.map QE)] := by rw [← hLL]; unfold Qv; rw [List.getElem?_map, hxq]; rfl
       have heq := QAy x T (by omega)
       have hdec : decide (T ∈ (trT m ws j).take (q + 1)) = (decide (T ∈ (trT m ws j).take q) || decide (x = T)) := by
        rw [Qb hxq, Bool.eq_iff_iff]
        simp only [decide_eq_true_eq, List.mem_append, List.mem_singleton, Bool.or_eq_true]
        exact ⟨fun h => h.imp id Eq.symm, fun h => h.imp id Eq.symm⟩
       have rtB_to : ∀ {N : Nat} {σ : S} {b : Bool}, decide (T ∈ (trT m ws j).take (q + 1)) = b → Wk N σ (rtB m ws LL T j (q + 1) b) → Wk N σ (rtB m ws LL T j (q + 1) (decide (T ∈ (trT m ws j).take (q + 1)))) := fun h k => by rw [h]; exact k
       generalize decide (T ∈ (trT m ws j).take q) = b at hdec ⊢
       unfold rtB Qh
       cases b with
       | true =>
        (repeat' ((conv=>whnf);first|with_reducible refine gA ?_|(with_reducible first|refine gB ?_|refine gZ (fun x hx hu=>?_)|refine gY (fun x hx=>?_)|refine gE ?_|refine QC.mk ?_ ?_|refine gS (fun h=>?_) (fun h=>?_)|refine Spl.nt ?_|refine Spl.mk (fun h=>?_) (fun h=>?_))))
        refine ⟨q + 1, hqn, by first | omega | (dsimp only; omega), rtB_to (b := true) hdec (Wk.en ⟨ai rfl (ai rfl (ai rfl (ai rfl (ai rfl (ai rfl (ai (QG (by omega)) trivial)))))), ai rfl (ai rfl trivial), rfl⟩)⟩
       | false =>
        (repeat' ((conv=>whnf);first|with_reducible refine gA ?_|refine Q0 hxe ?_ | ((with_reducible refine QB ?_); refine CallE.con ⟨_, heq, ?_⟩) | ((with_reducible refine XP ?_); refine Qe.mk ⟨_, heq, ?_⟩) | with_reducible refine AtA.mk' ?_|(with_reducible first|refine gB ?_|refine gZ (fun x hx hu=>?_)|refine gY (fun x hx=>?_)|refine gE ?_|refine QC.mk ?_ ?_|refine gS (fun h=>?_) (fun h=>?_)|refine Spl.nt ?_|refine Spl.mk (fun h=>?_) (fun h=>?_))))
        refine ⟨q + 1, hqn, by first | omega | (dsimp only; omega), rtB_to (b := decide (x = T)) (hdec.trans (Bool.false_or _)) (Wk.en ⟨ai rfl (ai rfl (ai rfl (ai rfl (ai rfl (ai rfl (ai (QG (by omega)) trivial)))))), ai rfl (ai rfl trivial), rfl⟩)⟩
      ·have hqe : (trT m ws j).take q = trT m ws j := List.take_of_length_le (by omega)
       rw [hqe]
       by_cases hin : T ∈ trT m ws j
       ·have he1 : Qv (trT m ws (j + 1)) = LL := by rw [hsc]; unfold XC; rw [if_pos hin, hLL]
        rw [decide_eq_true hin]
        unfold rtB Qh
        (repeat' ((conv=>whnf);first|with_reducible refine gA ?_|(with_reducible first|refine gB ?_|refine gZ (fun x hx hu=>?_)|refine gY (fun x hx=>?_)|refine gE ?_|refine QC.mk ?_ ?_|refine gS (fun h=>?_) (fun h=>?_)|refine Spl.nt ?_|refine Spl.mk (fun h=>?_) (fun h=>?_))))
        refine ⟨j + 1, hjn, by first | omega | (dsimp only; omega), QKD he1 (Wk.en ⟨ai rfl (ai rfl (ai rfl (ai (QG (by omega)) trivial))), ai rfl (ai rfl trivial), rfl⟩)⟩
       ·have he1 : Qv (trT m ws (j + 1)) = LL ++ [[.fs 3 (T.map QE)]] := by rw [hsc]; unfold XC; rw [if_neg hin]; unfold Qv at hLL ⊢; rw [List.map_append, hLL]; rfl
        rw [decide_eq_false hin]
        unfold rtB Qh
        (repeat' ((conv=>whnf);first|with_reducible refine gA ?_|(with_reducible first|refine gB ?_|refine gZ (fun x hx hu=>?_)|refine gY (fun x hx=>?_)|refine gE ?_|refine QC.mk ?_ ?_|refine gS (fun h=>?_) (fun h=>?_)|refine Spl.nt ?_|refine Spl.mk (fun h=>?_) (fun h=>?_))))
        refine ⟨j + 1, hjn, by first | omega | (dsimp only; omega), QKD he1 (Wk.en ⟨ai rfl (ai rfl (ai rfl (ai (QG (by omega)) trivial))), ai rfl (ai rfl trivial), rfl⟩)⟩
     ·have hje : j = (Zv ws (cpw ws.length)).length := by omega
      subst hje
      unfold rtA
      (repeat' ((conv=>whnf);first|with_reducible refine gA ?_|(with_reducible first|refine gB ?_|refine gZ (fun x hx hu=>?_)|refine gY (fun x hx=>?_)|refine gE ?_|refine QC.mk ?_ ?_|refine gS (fun h=>?_) (fun h=>?_)|refine Spl.nt ?_|refine Spl.mk (fun h=>?_) (fun h=>?_))))
      rfl
   ·have hO : ¬ YG m ws := fun ho => hwl ho.2.2
    rw [decide_eq_false hO, show Q6 m ws = [] from if_neg hO]
    have hall := QLY m ws hwl
    unfold rtC
    (repeat' ((conv=>whnf);first|with_reducible refine gA ?_|((with_reducible refine QB ?_); first | refine CallE.con ⟨_, hall, ?_⟩)|(with_reducible first|refine gB ?_|refine gZ (fun x hx hu=>?_)|refine gY (fun x hx=>?_)|refine gE ?_|refine QC.mk ?_ ?_|refine gS (fun h=>?_) (fun h=>?_)|refine Spl.nt ?_|refine Spl.mk (fun h=>?_) (fun h=>?_))))
    rfl
 ·have hO : ¬ YG m ws := fun ho => h ho.1
  rw [decide_eq_false hO, show Q6 m ws = [] from if_neg hO]
  refine FnC.intro QA Tryz.func22 rfl Tryz.ntmps22 Tryz.call22 rfl (bll rfl) rfl ?_
  (repeat' ((conv=>whnf);first|with_reducible refine gA ?_|(with_reducible first|refine gB ?_|refine gZ (fun x hx hu=>?_)|refine gY (fun x hx=>?_)|refine gE ?_|refine QC.mk ?_ ?_|refine gS (fun h=>?_) (fun h=>?_)|refine Spl.nt ?_|refine Spl.mk (fun h=>?_) (fun h=>?_))))
  all_goals first | (exfalso; omega) | rfl
def tpN : List D := [.st [], .bl false, .st []]
theorem QFq : YR Tryz.prog 115 tpN := YR.struct Tryz.underlying115 (by kernel_rfl) (by kernel_rfl)
theorem QAO (x : Nod) : Qp tpN (QE x) = true := rfl
theorem QKE (x y : Nod) : Yk (QE x) (QE y) = decide (x = y) := by
 have h := QFL (QAO x) (QAO y)
 have he : QE x = QE y ↔ x = y := by
  constructor
  ·intro e
   obtain ⟨p, d, q⟩ := x
   obtain ⟨p', d', q'⟩ := y
   unfold QE at e
   simp only [List.cons.injEq, D.st.injEq, D.bl.injEq] at e
   obtain ⟨rfl, rfl, rfl, _⟩ := e
   rfl
  ·rintro rfl; rfl
 rw [Bool.eq_iff_iff, h, he, decide_eq_true_eq]
def mpF (o : List Nod) (f : Nod → Int) : List (List D × D) := o.map fun x => (QE x, .it .i64 (f x))
theorem QCN (f : Nod → Int) (y : Nod) : ∀ o : List Nod, YQ (mpF o f) (QE y) = if y ∈ o then some (.it .i64 (f y)) else none
 | [] => by simp [mpF, YQ]
 | x :: o => by
  have ih := QCN f y o
  show (bif Yk (QE x) (QE y) then some (D.it .i64 (f x)) else YQ (mpF o f) (QE y)) = _
  rw [QKE]
  by_cases h : x = y
  ·subst h; simp
  ·rw [decide_eq_false h, cond_false, ih]
   simp only [List.mem_cons, show ¬ y = x from fun e => h e.symm, false_or]
theorem QEg (f g : Nod → Int) (y : Nod) : ∀ o : List Nod, o.Nodup → y ∈ o → (∀ x, x ≠ y → g x = f x) → QGj (mpF o f) (Zd (mpF o f) (QE y)) (.it .i64 (g y)) = mpF o g ∧ Zd (mpF o f) (QE y) < o.length
 | [], _, h, _ => by cases h
 | x :: o, hn, h, hg => by
  have hnx := (List.nodup_cons.1 hn).1
  show QGj ((QE x, D.it .i64 (f x)) :: mpF o f) (bif Yk (QE x) (QE y) then 0 else Zd (mpF o f) (QE y) + 1) _ = _ ∧ (bif Yk (QE x) (QE y) then 0 else Zd (mpF o f) (QE y) + 1) < _
  rw [QKE]
  by_cases hxy : x = y
  ·subst hxy
   rw [decide_eq_true rfl, cond_true]
   refine ⟨?_, by simp⟩
   show (QE x, D.it .i64 (g x)) :: mpF o f = (QE x, D.it .i64 (g x)) :: mpF o g
   congr 1
   unfold mpF
   refine List.map_congr_left fun z hz => ?_
   rw [hg z (fun e => hnx (e ▸ hz))]
  ·rw [decide_eq_false hxy, cond_false]
   have hyo : y ∈ o := by
    rcases List.mem_cons.1 h with h | h
    ·exact absurd h.symm hxy
    ·exact h
   obtain ⟨i1, i2⟩ := QEg f g y o (List.nodup_cons.1 hn).2 hyo hg
   refine ⟨?_, by simp; omega⟩
   show (QE x, D.it .i64 (f x)) :: QGj (mpF o f) (Zd (mpF o f) (QE y)) _ = (QE x, D.it .i64 (g x)) :: mpF o g
   rw [i1, hg x hxy]
def Qg (xs : List Nod) : List Nod := xs.foldl XC []
theorem XQ (xs : List Nod) (x : Nod) : Qg (xs ++ [x]) = XC (Qg xs) x := by unfold Qg; rw [List.foldl_append]; rfl
theorem Yv (x : Nod) : ∀ {n : Nat} (xs : List Nod), xs.length = n → (x ∈ Qg xs ↔ x ∈ xs)
 | 0, xs, h => by rw [List.length_eq_zero_iff.1 h]; exact Iff.rfl
 | n + 1, xs, h => by
  have hne : xs ≠ [] := fun e => by rw [e] at h; cases h
  obtain ⟨t, y, rfl⟩ : ∃ t y, xs = t ++ [y] := ⟨xs.dropLast, xs.getLast hne, (List.dropLast_concat_getLast hne).symm⟩
  have ih := Yv x t (by simpa using h)
  rw [XQ, QCr, ih]
  simp
theorem QCs {l : List Nod} (h : l.Nodup) (x : Nod) : (XC l x).Nodup := by
 unfold XC
 split
 ·exact h
 ·rename_i hx
  rw [List.nodup_append]
  refine ⟨h, by simp, fun a ha b hb => ?_⟩
  rw [List.mem_singleton.1 hb]
  rintro rfl
  exact hx ha
theorem QCt : ∀ {n : Nat} (xs : List Nod), xs.length = n → (Qg xs).Nodup
 | 0, xs, h => by rw [List.length_eq_zero_iff.1 h]; exact List.nodup_nil
 | n + 1, xs, h => by
  have hne : xs ≠ [] := fun e => by rw [e] at h; cases h
  obtain ⟨t, y, rfl⟩ : ∃ t y, xs = t ++ [y] := ⟨xs.dropLast, xs.getLast hne, (List.dropLast_concat_getLast hne).symm⟩
  rw [XQ]
  exact QCs (QCt t (by simpa using h)) y
theorem JV : ∀ {n : Nat} (xs : List Nod), xs.length = n → (Qg xs).length ≤ n
 | 0, xs, h => by rw [List.length_eq_zero_iff.1 h]; exact Nat.le_refl _
 | n + 1, xs, h => by
  have hne : xs ≠ [] := fun e => by rw [e] at h; cases h
  obtain ⟨t, y, rfl⟩ : ∃ t y, xs = t ++ [y] := ⟨xs.dropLast, xs.getLast hne, (List.dropLast_concat_getLast hne).symm⟩
  have ih := JV t (by simpa using h)
  rw [XQ]
  unfold XC
  split
  ·omega
  ·rw [List.length_append, List.length_singleton]; omega
def mpN (xs : List Nod) : List (List D × D) := mpF (Qg xs) fun x => (xs.count x : Nat)
theorem QCO (xs : List Nod) (y : Nod) : (match YQ (mpN xs) (QE y) with | some v => v | none => .it .i64 0) = D.it .i64 (xs.count y : Nat) := by
 unfold mpN
 rw [QCN]
 by_cases h : y ∈ xs
 ·rw [if_pos ((Yv y xs rfl).2 h)]
 ·rw [if_neg (fun q => h ((Yv y xs rfl).1 q)), List.count_eq_zero.2 h]; rfl
theorem QMz (xs : List Nod) (y : Nod) : QGj (JN (mpN xs) (QE y) (.it .i64 0)) (Zd (mpN xs) (QE y)) (.it .i64 ((xs.count y : Nat) + 1)) = mpN (xs ++ [y]) ∧ Zd (mpN xs) (QE y) < (JN (mpN xs) (QE y) (.it .i64 0)).length := by
 have hn := QCt xs rfl
 have hg : ∀ x, x ≠ y → (((xs ++ [y]).count x : Nat) : Int) = (xs.count x : Nat) := fun x hx => by
  rw [List.count_append, List.count_singleton]
  have : (y == x) = false := by simpa using fun e => hx e.symm
  rw [this]; simp
 have hy : (((xs ++ [y]).count y : Nat) : Int) = (xs.count y : Nat) + 1 := by
  rw [List.count_append, List.count_singleton]; simp
 by_cases h : y ∈ xs
 ·have ho := (Yv y xs rfl).2 h
  have hk : JN (mpN xs) (QE y) (.it .i64 0) = mpN xs := by
   unfold JN mpN
   rw [QCN, if_pos ho]
  rw [hk]
  have := QEg (fun x => (xs.count x : Nat)) (fun x => ((xs ++ [y]).count x : Nat)) y (Qg xs) hn ho hg
  rw [hy] at this
  refine ⟨?_, by unfold mpN mpF; rw [List.length_map]; exact this.2⟩
  show _ = mpF (Qg (xs ++ [y])) _
  rw [XQ, show XC (Qg xs) y = Qg xs from if_pos ho]
  exact this.1
 ·have ho : y ∉ Qg xs := fun q => h ((Yv y xs rfl).1 q)
  have hk : JN (mpN xs) (QE y) (.it .i64 0) = mpF (Qg xs ++ [y]) fun x => (xs.count x : Nat) := by
   unfold JN mpN
   rw [QCN, if_neg ho]
   unfold mpF
   rw [List.map_append]
   show _ ++ [(QE y, D.it .i64 0)] = _ ++ [(QE y, D.it .i64 (xs.count y : Nat))]
   rw [List.count_eq_zero.2 h]; rfl
  have hidx : Zd (mpN xs) (QE y) = Zd (mpF (Qg xs ++ [y]) fun x => (xs.count x : Nat)) (QE y) := by
   have key : ∀ o : List Nod, y ∉ o → ∀ f : Nod → Int, Zd (mpF o f) (QE y) = Zd (mpF (o ++ [y]) f) (QE y) := by
    intro o
    induction o with
    | nil =>
     intro _ f
     show 0 = (bif Yk (QE y) (QE y) then 0 else _)
     rw [QKE, decide_eq_true rfl, cond_true]
    | cons z o ih =>
     intro hz f
     have h1 : ¬ z = y := fun e => hz (e ▸ List.mem_cons_self)
     show (bif Yk (QE z) (QE y) then 0 else Zd (mpF o f) (QE y) + 1) = (bif Yk (QE z) (QE y) then 0 else Zd (mpF (o ++ [y]) f) (QE y) + 1)
     rw [QKE, decide_eq_false h1, cond_false, cond_false, ih (fun q => hz (List.mem_cons_of_mem _ q))]
   exact key _ ho _
  have hn2 : (Qg xs ++ [y]).Nodup := by
   have := QCs hn y
   unfold XC at this
   rwa [if_neg ho] at this
  rw [hk, hidx]
  have := QEg (fun x => (xs.count x : Nat)) (fun x => ((xs ++ [y]).count x : Nat)) y (Qg xs ++ [y]) hn2 (by simp) hg
  rw [hy] at this
  refine ⟨?_, by unfold mpF; rw [List.length_map]; exact this.2⟩
  show _ = mpF (Qg (xs ++ [y])) _
  rw [XQ, show XC (Qg xs) y = Qg xs ++ [y] from if_neg ho]
  exact this.1
theorem QKF {P : Program} {ti : Nat → Option Ty} {N : Nat} {ops : List Oper} {σ : S} {K : S → Prop} (h : Q9 P ti N 9 ops σ K) : Q9 P ti N 9 ops σ K := h
theorem QM0 {N : Nat} {σ τ : S} (h : Wk N σ τ) : Wk N σ τ := h
theorem QKG (xs : List Nod) (y : Nod) : (match YQ (JN (mpN xs) (QE y) (.it .i64 0)) (QE y) with | some v => v | none => .it .i64 0) = D.it .i64 (xs.count y : Nat) := by
 have h := QCO xs y
 unfold JN
 cases hq : YQ (mpN xs) (QE y) with
 | some v => rw [hq] at h; dsimp only; rw [hq]; exact h
 | none =>
  rw [hq] at h
  dsimp only
  have key : ∀ l : List (List D × D), YQ l (QE y) = none → YQ (l ++ [(QE y, D.it .i64 0)]) (QE y) = some (D.it .i64 0) := by
   intro l
   induction l with
   | nil =>
    intro _
    show (bif Yk (QE y) (QE y) then some (D.it .i64 0) else none) = _
    rw [QKE, decide_eq_true rfl]; rfl
   | cons p l ih =>
    intro hl
    obtain ⟨k, v⟩ := p
    simp only [YQ] at hl
    cases hk : Yk k (QE y) with
    | true => rw [hk, cond_true] at hl; cases hl
    | false =>
     rw [hk, cond_false] at hl
     show (bif Yk k (QE y) then some v else YQ (l ++ _) (QE y)) = _
     rw [hk, cond_false]
     exact ih hl
  rw [key _ hq]
  exact h
theorem flat_len {L : List (List Nod)} (h : ∀ t ∈ L, t.length ≤ 64) : L.flatten.length ≤ L.length * 64 := by
 induction L with
 | nil => simp
 | cons t L ih =>
  have h1 := h t List.mem_cons_self
  have h2 := ih fun u hu => h u (List.mem_cons_of_mem _ hu)
  rw [List.flatten_cons, List.length_append, List.length_cons, Nat.add_mul]; omega
def coA (LL : List (List D)) (xs : List Nod) (i : Nat) : S := ⟨[(4, .mp 2), (5, .ts 3 ((Qg xs).map QE) 3), (11, .d (.fs 1 LL)), (12, .d (.it .i64 (LL.length : Nat))), (13, .d (.it .i64 (i : Nat)))], [(2, .mp true true tpN (mpN xs)), (3, .tail 115 true), (0, .frame 1 [])], 4⟩
def coM (MP : List (List D × D)) (LL : List (List D)) (x : List D) (O : List (List D)) (tl i q : Nat) (TT : List (List D)) : S := ⟨[(9, .ptr 4 0), (4, .mp 2), (5, .ts 3 O 3), (11, .d (.fs 1 LL)), (12, .d (.it .i64 (LL.length : Nat))), (13, .d (.it .i64 (i : Nat))), (17, .d (.fs 3 TT)), (18, .d (.it .i64 (tl : Nat))), (19, .d (.it .i64 (q : Nat)))], [(4, .cells 3 (x.map .d)), (2, .mp true true tpN MP), (3, .tail 115 true), (0, .frame 1 [])], 6⟩
def coB (LL : List (List D)) (T : List Nod) (xs : List Nod) (i q : Nat) : S := ⟨[(4, .mp 2), (5, .ts 3 ((Qg xs).map QE) 3), (11, .d (.fs 1 LL)), (12, .d (.it .i64 (LL.length : Nat))), (13, .d (.it .i64 (i : Nat))), (17, .d (.fs 3 (T.map QE))), (18, .d (.it .i64 (T.length : Nat))), (19, .d (.it .i64 (q : Nat)))], [(2, .mp true true tpN (mpN xs)), (3, .tail 115 true), (0, .frame 1 [])], 4⟩
theorem QM1 {LL : List (List D)} {T xs ys : List Nod} {i q : Nat} {N : Nat} {σ : S} (h : ys = xs) (k : Wk N σ (coB LL T xs i q)) : Wk N σ (coB LL T ys i q) := by rw [h]; exact k
theorem QCu (L : List (List Nod)) (hL : L.length ≤ 1000) (hT : ∀ t ∈ L, t.length ≤ 64) : FnH Tryz.prog 61 [.d (.fs 1 (Qv L))] [] 0 [] (.tup [.mp 2, .d (.fs 3 ((Qg L.flatten).map QE))]) [(2, .mp true true tpN (mpN L.flatten))] 4 := by
 have hll : (Qv L).length = L.length := List.length_map ..
 refine FnH.intro QA Tryz.func61 rfl Tryz.ntmps61 Tryz.call61 rfl rfl rfl (Nat.zero_le _) rfl rfl rfl rfl rfl (fun T => ?_)
 (repeat' ((conv=>whnf);first|with_reducible refine gA ?_|((with_reducible refine QHf ?_); refine OpX.makeMap true tpN rfl rfl ?_)|(with_reducible first|refine gB ?_|refine gZ (fun x hx hu=>?_)|refine gY (fun x hx=>?_)|refine gE ?_|refine QC.mk ?_ ?_|refine gS (fun h=>?_) (fun h=>?_)|refine Spl.nt ?_|refine Spl.mk (fun h=>?_) (fun h=>?_))))
 conv => whnf
 refine QV QA (fun i : Nat => i ≤ L.length) (fun i => coA (Qv L) (L.take i).flatten i) (fun i => L.length - i) 0 (Nat.zero_le _) (Wk.en ⟨ai rfl (ai rfl (ai rfl (ai rfl (ai rfl trivial)))), ai rfl (ai rfl (ai rfl trivial)), rfl⟩) ?_
 intro i hi
 by_cases hil : i < L.length
 ·obtain ⟨t, ht⟩ := QX hil
  have htl := hT t (List.mem_of_getElem? ht)
  have hte : (Qv L)[i]? = some [.fs 3 (t.map QE)] := by unfold Qv; rw [List.getElem?_map, ht]; rfl
  have htn : (t.map QE).length = t.length := List.length_map ..
  have hfl : (L.take (i + 1)).flatten = (L.take i).flatten ++ t := by rw [Qb ht, List.flatten_append]; simp
  have hxl : (L.take i).flatten.length ≤ 64000 := by
   have h1 := flat_len (L := L.take i) fun u hu => hT u (List.mem_of_mem_take hu)
   rw [List.length_take] at h1
   have : min i L.length ≤ 1000 := by omega
   omega
  generalize (L.take i).flatten = xs at *
  generalize Qv L = LL at *
  unfold coA
  (repeat' ((conv=>whnf);first|with_reducible refine gA ?_|refine Q0 hte ?_|(with_reducible first|refine gB ?_|refine gZ (fun x hx hu=>?_)|refine gY (fun x hx=>?_)|refine gE ?_|refine QC.mk ?_ ?_|refine gS (fun h=>?_) (fun h=>?_)|refine Spl.nt ?_|refine Spl.mk (fun h=>?_) (fun h=>?_))))
  conv => whnf
  refine QV QA (fun q : Nat => q ≤ t.length) (fun q => coB LL t (xs ++ t.take q) i q) (fun q => t.length - q) 0 (Nat.zero_le _) (QM1 (xs := xs) (by simp) (Wk.en ⟨ai rfl (ai rfl (ai rfl (ai rfl (ai rfl (ai rfl (ai (QG (by rw [htn])) (ai rfl trivial))))))), ai rfl (ai rfl (ai rfl trivial)), rfl⟩)) ?_
  intro q hq
  by_cases hqt : q < t.length
  ·obtain ⟨x, hx⟩ := QX hqt
   have hsn : xs ++ t.take (q + 1) = (xs ++ t.take q) ++ [x] := by rw [Qb hx, List.append_assoc]
   have hyl : (xs ++ t.take q).length ≤ 100000 := by
    rw [List.length_append, List.length_take]; omega
   generalize xs ++ t.take q = ys at *
   have hg := QCO ys x
   have hg2 := QKG ys x
   obtain ⟨hup, hlt⟩ := QMz ys x
   have hg3 := QCO (ys ++ [x]) x
   have hc1 : (((ys ++ [x]).count x : Nat) : Int) = (ys.count x : Nat) + 1 := by rw [List.count_append, List.count_singleton]; simp
   rw [hc1] at hg3
   have hcl : ys.count x ≤ 100000 := Nat.le_trans List.count_le_length hyl
   have hord := XQ ys x
   have hmem : x ∈ Qg ys ↔ 0 < ys.count x := by rw [Yv x ys rfl, List.count_pos_iff]
   have hol := JV ys rfl
   have hoe : ((Qg ys).map QE).length = (Qg ys).length := List.length_map ..
   have hfold : coB LL t ys i q = ⟨[(4, .mp 2), (5, .ts 3 ((Qg ys).map QE) 3), (11, .d (.fs 1 LL)), (12, .d (.it .i64 (LL.length : Nat))), (13, .d (.it .i64 (i : Nat))), (17, .d (.fs 3 (t.map QE))), (18, .d (.it .i64 (t.length : Nat))), (19, .d (.it .i64 (q : Nat)))], [(2, .mp true true tpN (mpN ys)), (3, .tail 115 true), (0, .frame 1 [])], 4⟩ := rfl
   have hto : ∀ {N : Nat} {σ : S} {l : List (List D)}, (Qg (ys ++ [x])).map QE = l → Wk N σ ⟨[(4, .mp 2), (5, .ts 3 l 3), (11, .d (.fs 1 LL)), (12, .d (.it .i64 (LL.length : Nat))), (13, .d (.it .i64 (i : Nat))), (17, .d (.fs 3 (t.map QE))), (18, .d (.it .i64 (t.length : Nat))), (19, .d (.it .i64 ((q + 1 : Nat) : Int)))], [(2, .mp true true tpN (mpN (ys ++ [x]))), (3, .tail 115 true), (0, .frame 1 [])], 4⟩ → Wk N σ (coB LL t (xs ++ t.take (q + 1)) i (q + 1)) := fun h k => by rw [hsn]; unfold coB; rw [h]; exact k
   rw [hfold]
   generalize mpN ys = MP at *
   generalize mpN (ys ++ [x]) = MP2 at *
   generalize ys.count x = c at *
   generalize hO : (Qg ys).map QE = O at *
   clear hfold
   (repeat' ((conv=>whnf);first|with_reducible refine gA ?_|((with_reducible refine QKF ?_); refine Q9.mid (coM MP2 LL (QE x) O t.length i q (t.map QE)) (QGi QA mixed [0] (by decide +kernel) ?_) ?_) | with_reducible exact trivial | with_reducible refine Br.mk ?_ ?_ | ((with_reducible refine QM0 ?_); exact Wk.en ⟨ai rfl (ai rfl (ai rfl (ai rfl (ai rfl (ai rfl (ai rfl (ai rfl (ai rfl trivial)))))))), ai rfl (ai rfl (ai rfl (ai rfl trivial))), rfl⟩) | ((with_reducible refine QHf ?_); first | refine OpX.lookupA (kk := 3) (kx := QE x) (l := MP) rfl rfl Tryz.underlying125 QFq (fun w => Tryz.zeroValue3 w) (fun F => .it _ _) rfl rfl rfl (QAO x) hg ?_ | refine OpX.lookupA (kk := 3) (kx := QE x) (l := JN MP (QE x) (.it .i64 0)) rfl rfl Tryz.underlying125 QFq (fun w => Tryz.zeroValue3 w) (fun F => .it _ _) rfl rfl rfl (QAO x) hg2 ?_ | refine OpX.lookupA (kk := 3) (kx := QE x) (l := MP2) rfl rfl Tryz.underlying125 QFq (fun w => Tryz.zeroValue3 w) (fun F => .it _ _) rfl rfl rfl (QAO x) hg3 ?_ | refine OpX.mapEntryA (kk := 3) (kx := QE x) (l := MP) rfl rfl Tryz.underlying125 QFq (fun w => Tryz.zeroValue3 w) (fun F => .it _ _) rfl rfl rfl (QAO x) hg rfl ?_ | refine OpX.entryStoreA (i := Zd MP (QE x)) (vx := .it .i64 ((c : Nat) + 1)) rfl rfl rfl rfl rfl hlt rfl hup ?_) | with_reducible refine QAI hx ?_ | with_reducible refine AtA.mk' ?_|(with_reducible first|refine gB0 ?_|refine gZ (fun x hx hu=>?_)|refine gY (fun x hx=>?_)|refine gE ?_|refine QC.mk ?_ ?_|refine gS (fun h=>?_) (fun h=>?_)|refine Spl.nt ?_|refine Spl.mk (fun h=>?_) (fun h=>?_))))
   ·have hni : x ∉ Qg ys := fun hm => by have := hmem.1 hm; omega
    have e1 : (Qg (ys ++ [x])).map QE = O ++ [QE x] := by rw [hord, show XC (Qg ys) x = Qg ys ++ [x] from if_neg hni, List.map_append, hO]; rfl
    exact ⟨q + 1, hqt, by first | omega | (dsimp only; omega), hto e1 (Wk.en ⟨ai rfl (ai rfl (ai rfl (ai rfl (ai rfl (ai rfl (ai rfl (ai (QG (by omega)) trivial))))))), ai rfl (ai rfl (ai rfl trivial)), rfl⟩)⟩
   ·have hni : x ∈ Qg ys := hmem.2 (by omega)
    have e1 : (Qg (ys ++ [x])).map QE = O := by rw [hord, show XC (Qg ys) x = Qg ys from if_pos hni, hO]
    exact ⟨q + 1, hqt, by first | omega | (dsimp only; omega), hto e1 (Wk.en ⟨ai rfl (ai rfl (ai rfl (ai rfl (ai rfl (ai rfl (ai rfl (ai (QG (by omega)) trivial))))))), ai rfl (ai rfl (ai rfl trivial)), rfl⟩)⟩
  ·have hqe : t.take q = t := List.take_of_length_le (by omega)
   rw [hqe, ← hfl]
   unfold coB
   (repeat' ((conv=>whnf);first|with_reducible refine gA ?_|(with_reducible first|refine gB ?_|refine gZ (fun x hx hu=>?_)|refine gY (fun x hx=>?_)|refine gE ?_|refine QC.mk ?_ ?_|refine gS (fun h=>?_) (fun h=>?_)|refine Spl.nt ?_|refine Spl.mk (fun h=>?_) (fun h=>?_))))
   exact ⟨i + 1, hil, by first | omega | (dsimp only; omega), Wk.en ⟨ai rfl (ai rfl (ai rfl (ai rfl (ai (QG (by omega)) trivial)))), ai rfl (ai rfl (ai rfl trivial)), rfl⟩⟩
 ·have hie : i = L.length := by omega
  subst hie
  rw [List.take_length]
  unfold coA
  (repeat' ((conv=>whnf);first|with_reducible refine gA ?_|(with_reducible first|refine gB ?_|refine gZ (fun x hx hu=>?_)|refine gY (fun x hx=>?_)|refine gE ?_|refine QC.mk ?_ ?_|refine gS (fun h=>?_) (fun h=>?_)|refine Spl.nt ?_|refine Spl.mk (fun h=>?_) (fun h=>?_))))
  refine ⟨⟨[(2, .mp 2), (3, .d (.fs 3 ((Qg L.flatten).map QE)))], [(2, .mp true true tpN (mpN L.flatten)), (0, .frame 1 [])], 4⟩, Wk.vwL (ai (Vw.eq rfl) (ai (Vw.ts' rfl) trivial)) (ai (VwO.same _) (ai (VwO.same _) trivial)) rfl, rfl, ai rfl trivial, ai rfl trivial⟩
theorem Yw (m : List (List UInt8)) (ws : List Wr) : (Q6 m ws).length ≤ 1000 := by
 unfold Q6
 split
 ·rename_i h
  have h1 := QCM m ws (Zv ws (cpw ws.length)).length
  have h2 := QAv ws (cpw ws.length)
  have h3 := YC h.2.2
  omega
 ·simp
theorem Jt (m : List (List UInt8)) (ws : List Wr) : ∀ t ∈ Q6 m ws, t.length ≤ 64 := fun t ht => by
 unfold Q6 at ht
 split at ht
 ·obtain ⟨k, e⟩ := Js m ws _ t ht
  rw [e]; exact Yu m ws k
 ·cases ht
def JW (m : List (List UInt8)) (ws : List Wr) : List Nod := Qg (Q6 m ws).flatten
def QAE (m : List (List UInt8)) (ws : List Wr) : List Nod := (JW m ws).filter fun x => decide ((Q6 m ws).flatten.count x = (Q6 m ws).length)
theorem QFr (m : List (List UInt8)) (hm : Z7 m) (hml : m.length ≤ 1000) (ws : List Wr) (hw : Xj ws) : FnC Tryz.prog 25 [.dg 2 (Qh m ws)] (.tup [.d (.fs 3 ((JW m ws).map QE)), .d (.bl (decide (YG m ws)))]) := by
 have ht := Y8 m hm hml ws hw
 have hc := QCu (Q6 m ws) (Yw m ws) (Jt m ws)
 refine FnC.intro QA Tryz.func25 rfl Tryz.ntmps25 Tryz.call25 rfl (bll rfl) rfl ?_
 (repeat' ((conv=>whnf);first|with_reducible refine gA ?_|((with_reducible refine QB ?_); first | refine CallE.con ⟨_, ht, ?_⟩ | refine CallE.inl ?_) | ((with_reducible refine ZB ?_); refine CallI.byH hc [] (by with_unfolding_all exact rfl) ⟨rfl, by decide, by with_unfolding_all exact rfl⟩ trivial (by with_unfolding_all exact rfl) (by with_unfolding_all exact rfl) ?_)|(with_reducible first|refine gB ?_|refine gZ (fun x hx hu=>?_)|refine gY (fun x hx=>?_)|refine gE ?_|refine QC.mk ?_ ?_|refine gS (fun h=>?_) (fun h=>?_)|refine Spl.nt ?_|refine Spl.mk (fun h=>?_) (fun h=>?_))))
 rfl
def csA (xs : List Nod) (b : Bool) (L : List (List D)) (O : List (List D)) (out : List (List D)) (k : Nat) : S := ⟨[(4, .d (.fs 1 L)), (5, .d (.bl b)), (6, .mp 4), (8, .ts 3 out 6), (21, .d (.fs 3 O)), (22, .d (.it .i64 (O.length : Nat))), (23, .d (.it .i64 (k : Nat)))], [(4, .mp true true tpN (mpN xs)), (6, .tail 115 true)], 7⟩
theorem QFs (m : List (List UInt8)) (hm : Z7 m) (hml : m.length ≤ 1000) (ws : List Wr) (hw : Xj ws) : FnC Tryz.prog 23 [.dg 2 (Qh m ws)] (.tup [.d (.fs 3 ((QAE m ws).map QE)), .d (.bl (decide (YG m ws)))]) := by
 have ht := Y8 m hm hml ws hw
 have hc := QCu (Q6 m ws) (Yw m ws) (Jt m ws)
 have hll : (Qv (Q6 m ws)).length = (Q6 m ws).length := List.length_map ..
 have hl1 := Yw m ws
 have hol : ((Qg (Q6 m ws).flatten).map QE).length = (Qg (Q6 m ws).flatten).length := List.length_map ..
 have hfl := flat_len (Jt m ws)
 have ho2 := JV (Q6 m ws).flatten rfl
 refine FnC.intro QA Tryz.func23 rfl Tryz.ntmps23 Tryz.call23 rfl (bll rfl) rfl ?_
 (repeat' ((conv=>whnf);first|with_reducible refine gA ?_|((with_reducible refine QB ?_); first | refine CallE.con ⟨_, ht, ?_⟩ | refine CallE.inl ?_) | ((with_reducible refine ZB ?_); refine CallI.byH hc [] (by with_unfolding_all exact rfl) ⟨rfl, by decide, by with_unfolding_all exact rfl⟩ trivial (by with_unfolding_all exact rfl) (by with_unfolding_all exact rfl) ?_)|(with_reducible first|refine gB ?_|refine gZ (fun x hx hu=>?_)|refine gY (fun x hx=>?_)|refine gE ?_|refine QC.mk ?_ ?_|refine gS (fun h=>?_) (fun h=>?_)|refine Spl.nt ?_|refine Spl.mk (fun h=>?_) (fun h=>?_))))
 conv => whnf
 have hsu : QAE m ws = (Qg (Q6 m ws).flatten).filter fun x => decide ((Q6 m ws).flatten.count x = (Q6 m ws).length) := rfl
 generalize QAE m ws = R at *
 generalize decide (YG m ws) = b at *
 generalize (Q6 m ws).flatten = xs at *
 generalize hLn : (Q6 m ws).length = n at *
 generalize Qv (Q6 m ws) = L at *
 refine QV QA (fun k : Nat => k ≤ (Qg xs).length) (fun k => csA xs b L ((Qg xs).map QE) ((((Qg xs).take k).filter fun x => decide (xs.count x = n)).map QE) k) (fun k => (Qg xs).length - k) 0 (Nat.zero_le _) (Wk.en ⟨ai rfl (ai rfl (ai rfl (ai rfl (ai rfl (ai rfl (ai rfl trivial)))))), ai rfl (ai rfl trivial), rfl⟩) ?_
 intro k hk
 by_cases hkl : k < (Qg xs).length
 ·obtain ⟨x, hx⟩ := QX hkl
  have hxe : ((Qg xs).map QE)[k]? = some (QE x) := by rw [List.getElem?_map, hx]; rfl
  have hg := QCO xs x
  have hts : ((Qg xs).take (k + 1)).filter (fun x => decide (xs.count x = n)) = ((Qg xs).take k).filter (fun x => decide (xs.count x = n)) ++ (if xs.count x = n then [x] else []) := by
   rw [Qb hx, List.filter_append]
   congr 1
   by_cases h : xs.count x = n
   ·simp [h]
   ·simp [h]
  have hcl : xs.count x ≤ 100000 := Nat.le_trans List.count_le_length (by omega)
  have hol2 : (((Qg xs).take k).filter (fun x => decide (xs.count x = n))).length ≤ 64000 := by
   have h1 := List.length_filter_le (fun x => decide (xs.count x = n)) ((Qg xs).take k)
   rw [List.length_take] at h1
   omega
  generalize ((Qg xs).take k).filter (fun x => decide (xs.count x = n)) = out at *
  have hto : ∀ {N : Nat} {σ : S} {l : List (List D)}, (((Qg xs).take (k + 1)).filter (fun x => decide (xs.count x = n))).map QE = l → Wk N σ (csA xs b L ((Qg xs).map QE) l (k + 1)) → Wk N σ (csA xs b L ((Qg xs).map QE) ((((Qg xs).take (k + 1)).filter fun x => decide (xs.count x = n)).map QE) (k + 1)) := fun h q => by rw [h]; exact q
  have hol1 : (out.map QE).length = out.length := List.length_map ..
  generalize hO : (Qg xs).map QE = O at *
  unfold csA
  generalize xs.count x = c at *
  (repeat' ((conv=>whnf);first|with_reducible refine gA ?_|((with_reducible refine QHf ?_); first | refine OpX.lookupA (kk := 3) (kx := QE x) (l := mpN xs) rfl rfl Tryz.underlying125 QFq (fun w => Tryz.zeroValue3 w) (fun F => .it _ _) rfl rfl rfl (QAO x) hg ?_) | with_reducible refine AtA.mk' ?_ | refine Q0 hxe ?_|(with_reducible first|refine gB ?_|refine gZ (fun x hx hu=>?_)|refine gY (fun x hx=>?_)|refine gE ?_|refine QC.mk ?_ ?_|refine gS (fun h=>?_) (fun h=>?_)|refine Spl.nt ?_|refine Spl.mk (fun h=>?_) (fun h=>?_))))
  ·have e1 : (((Qg xs).take (k + 1)).filter (fun x => decide (xs.count x = n))).map QE = out.map QE ++ [QE x] := by rw [hts, if_pos (by omega), List.map_append]; rfl
   exact ⟨k + 1, hkl, by first | omega | (dsimp only; omega), hto e1 (Wk.en ⟨ai rfl (ai rfl (ai rfl (ai rfl (ai rfl (ai rfl (ai (QG (by omega)) trivial)))))), ai rfl (ai rfl trivial), rfl⟩)⟩
  ·have e1 : (((Qg xs).take (k + 1)).filter (fun x => decide (xs.count x = n))).map QE = out.map QE := by rw [hts, if_neg (by omega), List.append_nil]
   exact ⟨k + 1, hkl, by first | omega | (dsimp only; omega), hto e1 (Wk.en ⟨ai rfl (ai rfl (ai rfl (ai rfl (ai rfl (ai rfl (ai (QG (by omega)) trivial)))))), ai rfl (ai rfl trivial), rfl⟩)⟩
 ·have hke : (Qg xs).take k = Qg xs := List.take_of_length_le (by omega)
  rw [hke, ← hsu]
  unfold csA
  (repeat' ((conv=>whnf);first|with_reducible refine gA ?_|(with_reducible first|refine gB ?_|refine gZ (fun x hx hu=>?_)|refine gY (fun x hx=>?_)|refine gE ?_|refine QC.mk ?_ ?_|refine gS (fun h=>?_) (fun h=>?_)|refine Spl.nt ?_|refine Spl.mk (fun h=>?_) (fun h=>?_))))
  rfl
theorem QH6 (l : List Nod) (x : Nod) (hl : l.length ≤ 100000) : FnC Tryz.prog 62 [.d (.fs 3 (l.map QE)), .dg 3 (QE x)] (.d (.bl (decide (x ∈ l)))) := by
 refine FnC.intro QA Tryz.func62 rfl Tryz.ntmps62 Tryz.call62 rfl (bll rfl) rfl ?_
 have hla : (l.map QE).length = l.length := List.length_map ..
 (repeat' ((conv=>whnf);first|with_reducible refine gA ?_|(with_reducible first|refine gB ?_|refine gZ (fun x hx hu=>?_)|refine gY (fun x hx=>?_)|refine gE ?_|refine QC.mk ?_ ?_|refine gS (fun h=>?_) (fun h=>?_)|refine Spl.nt ?_|refine Spl.mk (fun h=>?_) (fun h=>?_))))
 conv => whnf
 refine QV QA (fun k : Nat => k ≤ l.length ∧ x ∉ l.take k) (fun k => ⟨[(0, .d (.fs 3 (l.map QE))), (3, .ptr 0 0), (5, .d (.it .i64 (k : Nat)))], [(0, .cells 3 ((QE x).map .d))], 1⟩) (fun k => l.length - k) 0 ⟨Nat.zero_le _, by simp⟩ (Wk.en ⟨ai rfl (ai rfl (ai rfl trivial)), ai rfl trivial, rfl⟩) ?_
 intro k ⟨k1, k2⟩
 rcases Nat.lt_or_ge k l.length with hkl | hkl
 ·obtain ⟨y, hy⟩ := QX hkl
  (repeat' ((conv=>whnf);first|with_reducible refine gA ?_|with_reducible refine QAI hy ?_ | with_reducible refine AtA.mk' ?_|(with_reducible first|refine gB ?_|refine gZ (fun x hx hu=>?_)|refine gY (fun x hx=>?_)|refine gE ?_|refine QC.mk ?_ ?_|refine gS (fun h=>?_) (fun h=>?_)|refine Spl.nt ?_|refine Spl.mk (fun h=>?_) (fun h=>?_))))
  ·have h' : Xw (QE y) (QE x) = true := h
   rw [QJ4, decide_eq_true_eq] at h'
   exact XI (decide_eq_true (h' ▸ List.mem_of_getElem? hy)).symm
  ·have h' : Xw (QE y) (QE x) = false := h
   rw [QJ4, decide_eq_false_iff_not] at h'
   refine ⟨k + 1, ⟨hkl, ?_⟩, by first | omega | (dsimp only; omega), Wk.en ⟨ai rfl (ai rfl (ai (QG (by omega)) trivial)), ai rfl trivial, rfl⟩⟩
   rw [Qb hy]
   intro hm
   rcases List.mem_append.1 hm with hm | hm
   ·exact k2 hm
   ·exact h' (List.mem_singleton.1 hm).symm
 ·have hke : l.take k = l := List.take_of_length_le hkl
  rw [hke] at k2
  (repeat' ((conv=>whnf);first|with_reducible refine gA ?_|(with_reducible first|refine gB ?_|refine gZ (fun x hx hu=>?_)|refine gY (fun x hx=>?_)|refine gE ?_|refine QC.mk ?_ ?_|refine gS (fun h=>?_) (fun h=>?_)|refine Spl.nt ?_|refine Spl.mk (fun h=>?_) (fun h=>?_))))
  exact XI (decide_eq_false k2).symm
def rpB (b : Bool) (LL : List (List D)) (xs : List Nod) (i : Nat) : S := ⟨[(4, .d (.fs 1 LL)), (5, .d (.bl b)), (6, .ts 3 ((Qg xs).map QE) 2), (7, .d (.it .i64 (i : Nat)))], [(2, .tail 115 true)], 3⟩
def rpC (b : Bool) (LL : List (List D)) (xs : List Nod) (i k : Nat) : S := ⟨[(4, .d (.fs 1 LL)), (5, .d (.bl b)), (6, .ts 3 ((Qg xs).map QE) 2), (7, .d (.it .i64 (i : Nat))), (8, .d (.it .i64 (k : Nat)))], [(2, .tail 115 true)], 3⟩
theorem QM2 {b : Bool} {LL : List (List D)} {xs ys : List Nod} {i k : Nat} {N : Nat} {σ : S} (h : ys = xs) (q : Wk N σ (rpC b LL xs i k)) : Wk N σ (rpC b LL ys i k) := by rw [h]; exact q
theorem QKH (m : List (List UInt8)) (hm : Z7 m) (hml : m.length ≤ 1000) (ws : List Wr) (hw : Xj ws) (hwb : ws.length ≤ 1000) : FnC Tryz.prog 26 [.dg 2 (Qh m ws)] (.tup [.d (.fs 3 ((JW m ws).map QE)), .d (.bl (decide (YG m ws)))]) := by
 have ht := QBU m hm hml ws hw hwb
 have hlL : (Qv (Q6 m ws)).length = (Q6 m ws).length := List.length_map ..
 have hl1 := Yw m ws
 have hel := Jt m ws
 refine FnC.intro QA Tryz.func26 rfl Tryz.ntmps26 Tryz.call26 rfl (bll rfl) rfl ?_
 (repeat' ((conv=>whnf);first|with_reducible refine gA ?_|((with_reducible refine QB ?_); first | refine CallE.con ⟨_, ht, ?_⟩)|(with_reducible first|refine gB ?_|refine gZ (fun x hx hu=>?_)|refine gY (fun x hx=>?_)|refine gE ?_|refine QC.mk ?_ ?_|refine gS (fun h=>?_) (fun h=>?_)|refine Spl.nt ?_|refine Spl.mk (fun h=>?_) (fun h=>?_))))
 conv => whnf
 unfold JW
 generalize decide (YG m ws) = b at *
 generalize Q6 m ws = L at *
 refine QV QA (fun i : Nat => i ≤ L.length) (fun i => rpB b (Qv L) (L.take i).flatten i) (fun i => L.length - i) 0 (Nat.zero_le _) (Wk.en ⟨ai rfl (ai rfl (ai rfl (ai rfl trivial))), ai rfl trivial, rfl⟩) ?_
 intro i hi
 by_cases hil : i < L.length
 ·obtain ⟨t, hti⟩ := QX hil
  have htl := hel t (List.mem_of_getElem? hti)
  have hte : (Qv L)[i]? = some [.fs 3 (t.map QE)] := by unfold Qv; rw [List.getElem?_map, hti]; rfl
  have htn : (t.map QE).length = t.length := List.length_map ..
  have hfl : (L.take (i + 1)).flatten = (L.take i).flatten ++ t := by rw [Qb hti, List.flatten_append]; simp
  have hxl : (L.take i).flatten.length ≤ 64000 := by
   have h1 := flat_len (L := L.take i) fun u hu => hel u (List.mem_of_mem_take hu)
   rw [List.length_take] at h1
   have : min i L.length ≤ 1000 := by omega
   omega
  generalize (L.take i).flatten = xs at *
  generalize Qv L = LL at *
  unfold rpB
  (repeat' ((conv=>whnf);first|with_reducible refine gA ?_|(with_reducible first|refine gB ?_|refine gZ (fun x hx hu=>?_)|refine gY (fun x hx=>?_)|refine gE ?_|refine QC.mk ?_ ?_|refine gS (fun h=>?_) (fun h=>?_)|refine Spl.nt ?_|refine Spl.mk (fun h=>?_) (fun h=>?_))))
  conv => whnf
  refine QV QA (fun k : Nat => k ≤ t.length) (fun k => rpC b LL (xs ++ t.take k) i k) (fun k => t.length - k) 0 (Nat.zero_le _) (QM2 (xs := xs) (by simp) (Wk.en ⟨ai rfl (ai rfl (ai rfl (ai rfl (ai rfl trivial)))), ai rfl trivial, rfl⟩)) ?_
  intro k hk
  by_cases hkt : k < t.length
  ·obtain ⟨x, hx⟩ := QX hkt
   have hsn : xs ++ t.take (k + 1) = (xs ++ t.take k) ++ [x] := by rw [Qb hx, List.append_assoc]
   have hyl : (xs ++ t.take k).length ≤ 100000 := by
    rw [List.length_append, List.length_take]; omega
   generalize xs ++ t.take k = ys at *
   have hxe : (t.map QE)[k]? = some (QE x) := by rw [List.getElem?_map, hx]; rfl
   have hol := JV ys rfl
   have hoe : ((Qg ys).map QE).length = (Qg ys).length := List.length_map ..
   have hh := QH6 (Qg ys) x (by omega)
   have hord := XQ ys x
   rw [← hsn] at hord
   have hto : ∀ {N : Nat} {σ : S} {l : List (List D)}, (Qg (xs ++ t.take (k + 1))).map QE = l → Wk N σ ⟨[(4, .d (.fs 1 LL)), (5, .d (.bl b)), (6, .ts 3 l 2), (7, .d (.it .i64 (i : Nat))), (8, .d (.it .i64 ((k + 1 : Nat) : Int)))], [(2, .tail 115 true)], 3⟩ → Wk N σ (rpC b LL (xs ++ t.take (k + 1)) i (k + 1)) := fun h q => by unfold rpC; rw [h]; exact q
   unfold rpC
   by_cases hin : x ∈ Qg ys
   ·have e1 : (Qg (xs ++ t.take (k + 1))).map QE = (Qg ys).map QE := by rw [hord, show XC (Qg ys) x = Qg ys from if_pos hin]
    rw [decide_eq_true hin] at hh
    generalize hO : (Qg ys).map QE = O at *
    (repeat' ((conv=>whnf);first|with_reducible refine gA ?_|refine Q0 hte ?_ | refine Q0 hxe ?_ | ((with_reducible refine QB ?_); first | refine CallE.con ⟨_, hh, ?_⟩) | with_reducible refine AtA.mk' ?_|(with_reducible first|refine gB ?_|refine gZ (fun x hx hu=>?_)|refine gY (fun x hx=>?_)|refine gE ?_|refine QC.mk ?_ ?_|refine gS (fun h=>?_) (fun h=>?_)|refine Spl.nt ?_|refine Spl.mk (fun h=>?_) (fun h=>?_))))
    exact ⟨k + 1, hkt, by first | omega | (dsimp only; omega), hto e1 (Wk.en ⟨ai rfl (ai rfl (ai rfl (ai rfl (ai (QG (by omega)) trivial)))), ai rfl trivial, rfl⟩)⟩
   ·have e1 : (Qg (xs ++ t.take (k + 1))).map QE = (Qg ys).map QE ++ [QE x] := by rw [hord, show XC (Qg ys) x = Qg ys ++ [x] from if_neg hin, List.map_append]; rfl
    rw [decide_eq_false hin] at hh
    generalize hO : (Qg ys).map QE = O at *
    (repeat' ((conv=>whnf);first|with_reducible refine gA ?_|refine Q0 hte ?_ | refine Q0 hxe ?_ | ((with_reducible refine QB ?_); first | refine CallE.con ⟨_, hh, ?_⟩) | with_reducible refine AtA.mk' ?_|(with_reducible first|refine gB ?_|refine gZ (fun x hx hu=>?_)|refine gY (fun x hx=>?_)|refine gE ?_|refine QC.mk ?_ ?_|refine gS (fun h=>?_) (fun h=>?_)|refine Spl.nt ?_|refine Spl.mk (fun h=>?_) (fun h=>?_))))
    exact ⟨k + 1, hkt, by first | omega | (dsimp only; omega), hto e1 (Wk.en ⟨ai rfl (ai rfl (ai rfl (ai rfl (ai (QG (by omega)) trivial)))), ai rfl trivial, rfl⟩)⟩
  ·have hke : t.take k = t := List.take_of_length_le (by omega)
   rw [hke, ← hfl]
   unfold rpC
   (repeat' ((conv=>whnf);first|with_reducible refine gA ?_|refine Q0 hte ?_|(with_reducible first|refine gB ?_|refine gZ (fun x hx hu=>?_)|refine gY (fun x hx=>?_)|refine gE ?_|refine QC.mk ?_ ?_|refine gS (fun h=>?_) (fun h=>?_)|refine Spl.nt ?_|refine Spl.mk (fun h=>?_) (fun h=>?_))))
   exact ⟨i + 1, hil, by first | omega | (dsimp only; omega), Wk.en ⟨ai rfl (ai rfl (ai rfl (ai (QG (by omega)) trivial))), ai rfl trivial, rfl⟩⟩
 ·have hie : L.take i = L := List.take_of_length_le (by omega)
  rw [hie]
  unfold rpB
  (repeat' ((conv=>whnf);first|with_reducible refine gA ?_|(with_reducible first|refine gB ?_|refine gZ (fun x hx hu=>?_)|refine gY (fun x hx=>?_)|refine gE ?_|refine QC.mk ?_ ?_|refine gS (fun h=>?_) (fun h=>?_)|refine Spl.nt ?_|refine Spl.mk (fun h=>?_) (fun h=>?_))))
  rfl
theorem QDv {α : Type} [DecidableEq α] (x : α) : ∀ (l acc : List α), x ∈ l.foldl XC acc ↔ x ∈ acc ∨ x ∈ l
 | [], acc => by simp
 | a :: l, acc => by
  rw [List.foldl_cons, QDv x l, QCr, List.mem_cons, or_assoc]
theorem QLj (m : List (List UInt8)) (ws : List Wr) (h : YG m ws) (t : List Nod) : t ∈ Q6 m ws ↔ ∃ k ∈ Zv ws (cpw ws.length), YF m ws k = t := by
 rw [show Q6 m ws = _ from if_pos h]
 unfold trT
 rw [QDv, List.take_length, List.mem_map]
 simp
theorem QKI (m : List (List UInt8)) (ws : List Wr) (h : YG m ws) : 0 < (Q6 m ws).length := by
 obtain ⟨k, hk⟩ := QX (QFp ws h.2.2)
 exact List.length_pos_of_mem ((QLj m ws h _).2 ⟨k, List.mem_of_getElem? hk, rfl⟩)
def Q4 (L : List (List Nod)) (x : Nod) : Bool := L.all fun t => decide (x ∈ t)
def QFt (L : List (List Nod)) : List Nod := (L.getD 0 []).filter (Q4 L)
theorem QG6 (L : List (List Nod)) (t : List Nod) (x : Nod) : Q4 (L ++ [t]) x = (Q4 L x && decide (x ∈ t)) := by
 unfold Q4; rw [List.all_append]; simp
def rsB (LL : List (List D)) (out : List (List D)) (i : Nat) : S := ⟨[(4, .d (.fs 1 LL)), (6, .ts 3 out 2), (7, .d (.it .i64 (i : Nat)))], [(2, .tail 115 true)], 3⟩
def rsC (LL : List (List D)) (out : List (List D)) (b : Bool) (i k : Nat) : S := ⟨[(4, .d (.fs 1 LL)), (6, .ts 3 out 2), (7, .d (.it .i64 (i : Nat))), (8, .d (.bl b)), (9, .d (.it .i64 (k : Nat)))], [(2, .tail 115 true)], 3⟩
theorem QKJ (m : List (List UInt8)) (hm : Z7 m) (hml : m.length ≤ 1000) (ws : List Wr) (hw : Xj ws) (hwb : ws.length ≤ 1000) : FnC Tryz.prog 24 [.dg 2 (Qh m ws)] (.tup [.d (.fs 3 ((QFt (Q6 m ws)).map QE)), .d (.bl (decide (YG m ws)))]) := by
 have ht := QBU m hm hml ws hw hwb
 have hlL : (Qv (Q6 m ws)).length = (Q6 m ws).length := List.length_map ..
 have hl1 := Yw m ws
 have hel := Jt m ws
 by_cases hO : YG m ws
 ·have hL0 := QKI m ws hO
  rw [decide_eq_true hO] at ht ⊢
  refine FnC.intro QA Tryz.func24 rfl Tryz.ntmps24 Tryz.call24 rfl (bll rfl) rfl ?_
  (repeat' ((conv=>whnf);first|with_reducible refine gA ?_|((with_reducible refine QB ?_); first | refine CallE.con ⟨_, ht, ?_⟩)|(with_reducible first|refine gB ?_|refine gZ (fun x hx hu=>?_)|refine gY (fun x hx=>?_)|refine gE ?_|refine QC.mk ?_ ?_|refine gS (fun h=>?_) (fun h=>?_)|refine Spl.nt ?_|refine Spl.mk (fun h=>?_) (fun h=>?_))))
  conv => whnf
  generalize Q6 m ws = L at *
  obtain ⟨t0, ht0⟩ := QX hL0
  have hs0 : QFt L = t0.filter (Q4 L) := by unfold QFt; rw [List.getD_eq_getElem?_getD, ht0]; rfl
  have hte0 : (Qv L)[0]? = some [.fs 3 (t0.map QE)] := by unfold Qv; rw [List.getElem?_map, ht0]; rfl
  have htn0 : (t0.map QE).length = t0.length := List.length_map ..
  have htl0 := hel t0 (List.mem_of_getElem? ht0)
  rw [hs0]
  refine QV QA (fun i : Nat => i ≤ t0.length) (fun i => rsB (Qv L) (((t0.take i).filter (Q4 L)).map QE) i) (fun i => t0.length - i) 0 (Nat.zero_le _) (Wk.en ⟨ai rfl (ai rfl (ai rfl trivial)), ai rfl trivial, rfl⟩) ?_
  intro i hi
  by_cases hil : i < t0.length
  ·obtain ⟨x, hx⟩ := QX hil
   have hxe : (t0.map QE)[i]? = some (QE x) := by rw [List.getElem?_map, hx]; rfl
   have hsn : (t0.take (i + 1)).filter (Q4 L) = (t0.take i).filter (Q4 L) ++ (if Q4 L x = true then [x] else []) := by
    rw [Qb hx, List.filter_append]
    congr 1
    by_cases h : Q4 L x = true
    ·simp [h]
    ·simp [h]
   have hol : ((t0.take i).filter (Q4 L)).length ≤ 64 := by
    have h1 := List.length_filter_le (Q4 L) (t0.take i)
    rw [List.length_take] at h1
    omega
   generalize hout : (t0.take i).filter (Q4 L) = out at *
   have hol1 : (out.map QE).length = out.length := List.length_map ..
   unfold rsB
   (repeat' ((conv=>whnf);first|with_reducible refine gA ?_|((with_reducible refine Yb ?_); refine XD hte0 ?_) | refine Q0 hxe ?_ | with_reducible refine AtA.mk' ?_|(with_reducible first|refine gB ?_|refine gZ (fun x hx hu=>?_)|refine gY (fun x hx=>?_)|refine gE ?_|refine QC.mk ?_ ?_|refine gS (fun h=>?_) (fun h=>?_)|refine Spl.nt ?_|refine Spl.mk (fun h=>?_) (fun h=>?_))))
   conv => whnf
   refine QV QA (fun k : Nat => k ≤ L.length) (fun k => rsC (Qv L) (out.map QE) (Q4 (L.take k) x) i k) (fun k => L.length - k) 0 (Nat.zero_le _) (Wk.en ⟨ai rfl (ai rfl (ai rfl (ai rfl (ai rfl trivial)))), ai rfl trivial, rfl⟩) ?_
   intro k hk
   by_cases hkl : k < L.length
   ·obtain ⟨t, htk⟩ := QX hkl
    have hte : (Qv L)[k]? = some [.fs 3 (t.map QE)] := by unfold Qv; rw [List.getElem?_map, htk]; rfl
    have htl := hel t (List.mem_of_getElem? htk)
    have hh := QH6 t x (by omega)
    have hia : Q4 (L.take (k + 1)) x = (Q4 (L.take k) x && decide (x ∈ t)) := by rw [Qb htk, QG6]
    have hto : ∀ {N : Nat} {σ : S} {b : Bool}, Q4 (L.take (k + 1)) x = b → Wk N σ (rsC (Qv L) (out.map QE) b i (k + 1)) → Wk N σ (rsC (Qv L) (out.map QE) (Q4 (L.take (k + 1)) x) i (k + 1)) := fun h q => by rw [h]; exact q
    generalize Q4 (L.take k) x = b at *
    generalize hLL : Qv L = LL at *
    unfold rsC
    cases b with
    | true =>
     (repeat' ((conv=>whnf);first|with_reducible refine gA ?_|refine Q0 hte ?_ | ((with_reducible refine Yb ?_); refine XD hte0 ?_) | refine Q0 hxe ?_ | ((with_reducible refine QB ?_); refine CallE.con ⟨_, hh, ?_⟩) | ((with_reducible refine XP ?_); refine Qe.mk ⟨_, hh, ?_⟩) | with_reducible refine AtA.mk' ?_|(with_reducible first|refine gB ?_|refine gZ (fun x hx hu=>?_)|refine gY (fun x hx=>?_)|refine gE ?_|refine QC.mk ?_ ?_|refine gS (fun h=>?_) (fun h=>?_)|refine Spl.nt ?_|refine Spl.mk (fun h=>?_) (fun h=>?_))))
     exact ⟨k + 1, hkl, by first | omega | (dsimp only; omega), hto (b := decide (x ∈ t)) (hia.trans (Bool.true_and _)) (Wk.en ⟨ai rfl (ai rfl (ai rfl (ai rfl (ai (QG (by omega)) trivial)))), ai rfl trivial, rfl⟩)⟩
    | false =>
     (repeat' ((conv=>whnf);first|with_reducible refine gA ?_|refine Q0 hte ?_ | ((with_reducible refine Yb ?_); refine XD hte0 ?_) | refine Q0 hxe ?_ | ((with_reducible refine QB ?_); refine CallE.con ⟨_, hh, ?_⟩) | ((with_reducible refine XP ?_); refine Qe.mk ⟨_, hh, ?_⟩) | with_reducible refine AtA.mk' ?_|(with_reducible first|refine gB ?_|refine gZ (fun x hx hu=>?_)|refine gY (fun x hx=>?_)|refine gE ?_|refine QC.mk ?_ ?_|refine gS (fun h=>?_) (fun h=>?_)|refine Spl.nt ?_|refine Spl.mk (fun h=>?_) (fun h=>?_))))
     exact ⟨k + 1, hkl, by first | omega | (dsimp only; omega), hto (b := false) (hia.trans (Bool.false_and _)) (Wk.en ⟨ai rfl (ai rfl (ai rfl (ai rfl (ai (QG (by omega)) trivial)))), ai rfl trivial, rfl⟩)⟩
   ·have hke : L.take k = L := List.take_of_length_le (by omega)
    rw [hke]
    have hto : ∀ {N : Nat} {σ : S} {l : List (List D)}, ((t0.take (i + 1)).filter (Q4 L)).map QE = l → Wk N σ (rsB (Qv L) l (i + 1)) → Wk N σ (rsB (Qv L) (((t0.take (i + 1)).filter (Q4 L)).map QE) (i + 1)) := fun h q => by rw [h]; exact q
    by_cases hia : Q4 L x = true
    ·have e1 : ((t0.take (i + 1)).filter (Q4 L)).map QE = out.map QE ++ [QE x] := by rw [hsn, if_pos hia, List.map_append]; rfl
     rw [hia]
     generalize hLL : Qv L = LL at *
     unfold rsC
     (repeat' ((conv=>whnf);first|with_reducible refine gA ?_|((with_reducible refine Yb ?_); refine XD hte0 ?_) | refine Q0 hxe ?_ | with_reducible refine AtA.mk' ?_|(with_reducible first|refine gB ?_|refine gZ (fun x hx hu=>?_)|refine gY (fun x hx=>?_)|refine gE ?_|refine QC.mk ?_ ?_|refine gS (fun h=>?_) (fun h=>?_)|refine Spl.nt ?_|refine Spl.mk (fun h=>?_) (fun h=>?_))))
     exact ⟨i + 1, hil, by first | omega | (dsimp only; omega), hto e1 (Wk.en ⟨ai rfl (ai rfl (ai (QG (by omega)) trivial)), ai rfl trivial, rfl⟩)⟩
    ·have e1 : ((t0.take (i + 1)).filter (Q4 L)).map QE = out.map QE := by rw [hsn, if_neg hia, List.append_nil]
     rw [show Q4 L x = false by simpa using hia]
     generalize hLL : Qv L = LL at *
     unfold rsC
     (repeat' ((conv=>whnf);first|with_reducible refine gA ?_|((with_reducible refine Yb ?_); refine XD hte0 ?_) | refine Q0 hxe ?_ | with_reducible refine AtA.mk' ?_|(with_reducible first|refine gB ?_|refine gZ (fun x hx hu=>?_)|refine gY (fun x hx=>?_)|refine gE ?_|refine QC.mk ?_ ?_|refine gS (fun h=>?_) (fun h=>?_)|refine Spl.nt ?_|refine Spl.mk (fun h=>?_) (fun h=>?_))))
     exact ⟨i + 1, hil, by first | omega | (dsimp only; omega), hto e1 (Wk.en ⟨ai rfl (ai rfl (ai (QG (by omega)) trivial)), ai rfl trivial, rfl⟩)⟩
  ·have hie : t0.take i = t0 := List.take_of_length_le (by omega)
   rw [hie]
   unfold rsB
   (repeat' ((conv=>whnf);first|with_reducible refine gA ?_|((with_reducible refine Yb ?_); refine XD hte0 ?_)|(with_reducible first|refine gB ?_|refine gZ (fun x hx hu=>?_)|refine gY (fun x hx=>?_)|refine gE ?_|refine QC.mk ?_ ?_|refine gS (fun h=>?_) (fun h=>?_)|refine Spl.nt ?_|refine Spl.mk (fun h=>?_) (fun h=>?_))))
   rfl
 ·have hn : Q6 m ws = [] := if_neg hO
  rw [hn, decide_eq_false hO] at ht
  rw [hn, decide_eq_false hO]
  refine FnC.intro QA Tryz.func24 rfl Tryz.ntmps24 Tryz.call24 rfl (bll rfl) rfl ?_
  (repeat' ((conv=>whnf);first|with_reducible refine gA ?_|((with_reducible refine QB ?_); first | refine CallE.con ⟨_, ht, ?_⟩)|(with_reducible first|refine gB ?_|refine gZ (fun x hx hu=>?_)|refine gY (fun x hx=>?_)|refine gE ?_|refine QC.mk ?_ ?_|refine gS (fun h=>?_) (fun h=>?_)|refine Spl.nt ?_|refine Spl.mk (fun h=>?_) (fun h=>?_))))
  rfl
theorem QFu : ∀ w : List (List UInt8), QEW w w = false
 | [] => rfl
 | x :: w => by rw [QEW, if_pos rfl, QFu w]
theorem QG7 (f : Int → List UInt8) : (Zo f).1.Nodup := by
 have h := (QJi f).2.2.2.1
 refine List.Pairwise.imp (fun {x y} hxy => ?_) h
 rintro rfl
 rw [QFu] at hxy; cases hxy
theorem QG8 (m : List (List UInt8)) (ws : List Wr) : ∀ t ∈ Q6 m ws, t.Nodup := fun t ht => by
 unfold Q6 at ht
 split at ht
 ·obtain ⟨k, e⟩ := Js m ws _ t ht
  rw [e]; exact QG7 _
 ·cases ht
theorem QDw {α : Type} [DecidableEq α] : ∀ (ys acc : List α), ∃ q, ys.foldl XC acc = acc ++ q ∧ ∀ x ∈ q, x ∉ acc
 | [], acc => ⟨[], by simp, fun x hx => by cases hx⟩
 | y :: ys, acc => by
  obtain ⟨q, e, h⟩ := QDw ys (XC acc y)
  rw [List.foldl_cons, e]
  by_cases hy : y ∈ acc
  ·rw [show XC acc y = acc from if_pos hy] at h ⊢
   exact ⟨q, rfl, h⟩
  ·rw [show XC acc y = acc ++ [y] from if_neg hy] at h ⊢
   refine ⟨y :: q, by simp, fun x hx => ?_⟩
   rcases List.mem_cons.1 hx with rfl | hx
   ·exact hy
   ·exact fun ha => h x hx (List.mem_append_left _ ha)
theorem QBr {α : Type} [DecidableEq α] : ∀ (t acc : List α), (acc ++ t).Nodup → t.foldl XC acc = acc ++ t
 | [], acc, _ => by simp
 | y :: t, acc, h => by
  have hy : y ∉ acc := fun ha => by
   rw [List.nodup_append] at h
   exact h.2.2 y ha y List.mem_cons_self rfl
  rw [List.foldl_cons, show XC acc y = acc ++ [y] from if_neg hy, QBr t (acc ++ [y]) (by rw [List.append_assoc]; exact h), List.append_assoc]; rfl
theorem QBs (x : Nod) : ∀ t : List Nod, t.Nodup → x ∈ t → t.count x = 1
 | [], _, h => by cases h
 | y :: t, hn, h => by
  obtain ⟨h1, h2⟩ := List.nodup_cons.1 hn
  rw [List.count_cons]
  by_cases e : y = x
  ·subst e
   rw [List.count_eq_zero.2 h1]; simp
  ·rw [QBs x t h2 ((List.mem_cons.1 h).resolve_left fun q => e q.symm)]
   simp [e]
theorem QDx (x : Nod) : ∀ L : List (List Nod), (∀ t ∈ L, t.Nodup) → L.flatten.count x ≤ L.length ∧ (L.flatten.count x = L.length ↔ Q4 L x = true)
 | [], _ => ⟨Nat.le_refl _, by simp [Q4]⟩
 | t :: L, h => by
  obtain ⟨i1, i2⟩ := QDx x L fun u hu => h u (List.mem_cons_of_mem _ hu)
  have ht := h t List.mem_cons_self
  have hc : t.count x = if x ∈ t then 1 else 0 := by
   by_cases hx : x ∈ t
   ·rw [if_pos hx]; exact QBs x t ht hx
   ·rw [if_neg hx]; exact List.count_eq_zero.2 hx
  have hia : Q4 (t :: L) x = (decide (x ∈ t) && Q4 L x) := rfl
  rw [List.flatten_cons, List.count_append, hc, hia, List.length_cons]
  by_cases hx : x ∈ t
  ·rw [if_pos hx, decide_eq_true hx, Bool.true_and, ← i2]
   exact ⟨by omega, by omega⟩
  ·rw [if_neg hx, decide_eq_false hx, Bool.false_and]
   exact ⟨by omega, ⟨fun e => by omega, fun e => by cases e⟩⟩
theorem QKK (L : List (List Nod)) (h : ∀ t ∈ L, t.Nodup) : (Qg L.flatten).filter (fun x => decide (L.flatten.count x = L.length)) = QFt L := by
 have hf : (fun x => decide (L.flatten.count x = L.length)) = Q4 L := by
  funext x
  have := (QDx x L h).2
  rw [Bool.eq_iff_iff, decide_eq_true_eq, this]
 rw [hf]
 cases L with
 | nil => rfl
 | cons t L =>
  show (Qg (t ++ L.flatten)).filter _ = t.filter _
  unfold Qg
  rw [List.foldl_append, QBr t [] (h t List.mem_cons_self), List.nil_append]
  obtain ⟨q, e, hq⟩ := QDw L.flatten t
  rw [e, List.filter_append]
  rw [show q.filter (Q4 (t :: L)) = [] from ?_, List.append_nil]
  rw [List.filter_eq_nil_iff]
  intro x hx
  have := hq x hx
  rw [show Q4 (t :: L) x = (decide (x ∈ t) && Q4 L x) from rfl, decide_eq_false this]
  simp
theorem QLk (m : List (List UInt8)) (ws : List Wr) : QAE m ws = QFt (Q6 m ws) := QKK _ (QG8 m ws)
def sM : List (List UInt8) := QG4.set 3 QH2
def sW : List Wr := [⟨17, k1S, 0, 0, 0⟩]
def sM1 : List (List UInt8) := sM.set 17 k1S
theorem QH7 : Z7 sM := by
 intro s hs
 have h : ∀ s ∈ sM, s.length = 32 := by decide +kernel
 exact h s hs
theorem QKL : Xj sW := by
 intro w hw
 simp only [sW, List.mem_cons, List.not_mem_nil, or_false] at hw
 rcases hw with rfl <;> rfl
theorem QLl : YG sM sW := by decide +kernel
theorem QNw : Zv sW (cpw sW.length) = [0, 1] := by decide +kernel
theorem QOn : Zw sM sW 0 sW.length = sM := by decide +kernel
theorem QOo : Zw sM sW 1 sW.length = sM1 := by decide +kernel
theorem QOp : ZK (imS sM) 0 24 = [] := by decide +kernel
theorem QOq : (QL (imS sM) 0).k = 2 := by decide +kernel
theorem QOr : nms (imS sM) 0 = [] := by
 unfold nms XL
 rw [QOp, List.mergeSort_nil]; rfl
theorem QOs : Zo (imS sM) = ([], true) := by
 have e : QR (imS sM) 4 0 [] = [] := by
  rw [QR, QOr]; rfl
 unfold Zo Xz
 rw [if_pos QOq, e]; rfl
theorem QOt : ZK (imS sM1) 0 24 = [[97]] := by decide +kernel
theorem QOu : ZK (imS sM1) 2 24 = [] := by decide +kernel
theorem QNx : mOf (imS sM1) 0 [97] = 2 := by decide +kernel
theorem QNy : (QL (imS sM1) 2).k = 2 := by decide +kernel
theorem QOv : ZE (imS sM1) (QL (imS sM1) 2) = [] := by decide +kernel
theorem QOw : (QL (imS sM1) 0).k = 2 := by decide +kernel
theorem QOx : nms (imS sM1) 0 = [[97]] := by
 unfold nms XL
 rw [QOt, List.mergeSort_singleton]; rfl
theorem QOy : nms (imS sM1) 2 = [] := by
 unfold nms XL
 rw [QOu, List.mergeSort_nil]; rfl
def QEh : Nod := ⟨[47, 97], true, []⟩
theorem QOz : Zo (imS sM1) = ([QEh], true) := by
 have e : QR (imS sM1) 4 0 [] = [QEh] := by
  rw [QR, QOx]
  show Qa (imS sM1) [] 0 [97] :: ((if (QL (imS sM1) (mOf (imS sM1) 0 [97])).k = 2 then QR (imS sM1) 3 (mOf (imS sM1) 0 [97]) ([] ++ [[97]]) else []) ++ []) = _
  rw [QNx, if_pos QNy, QR, QOy]
  show [Qa (imS sM1) [] 0 [97]] = _
  unfold Qa
  rw [QNx, QNy, QOv]; rfl
 unfold Zo Xz
 rw [if_pos QOw, e]; rfl
theorem QKM : Q6 sM sW = [[], [QEh]] := by
 rw [show Q6 sM sW = _ from if_pos QLl]
 unfold trT
 rw [List.take_length, QNw]
 show ([YF sM sW 0, YF sM sW 1] : List (List Nod)).foldl XC [] = _
 unfold YF
 rw [QOn, QOo, QOs, QOz]
 decide +kernel
theorem QKN : JW sM sW = [QEh] := by
 unfold JW
 rw [QKM]; decide +kernel
theorem QM3 : QAE sM sW = [] := by
 unfold QAE
 rw [QKN, QKM]; decide +kernel
theorem QIq {l : List (List D)} {x : List D} {K : List D → Prop} (hx : l[1]? = some x) (h : K x) : (0 ≤ (1 : Int) ∧ (1 : Int) < l.length) ∧ ∀ c, l[(1 : Int).toNat]? = some c → K c :=
 ⟨⟨by decide, by have := (List.getElem?_eq_some_iff.1 hx).1; omega⟩, fun c hc => by have e : some x = some c := hx.symm.trans hc; rw [← Option.some.inj e]; exact h⟩
theorem QG9 : FnC Tryz.prog 20 [] (.d (.bl true)) := by
 have hx32 : ∀ x ∈ sM.map QO, x.length = 32 := fun x hx => by
  obtain ⟨s, hs, rfl⟩ := List.mem_map.1 hx
  rw [Xg]; exact QH7 s hs
 have hs := QFZ
 have ht := Y8 sM QH7 (by decide +kernel) sW QKL
 have hu := QFs sM QH7 (by decide +kernel) sW QKL
 have hp := QFr sM QH7 (by decide +kernel) sW QKL
 rw [QKM, decide_eq_true QLl] at ht
 have hx0 : (Qv [[], [QEh]])[0]? = some [.fs 3 []] := rfl
 have hx1 : (Qv [[], [QEh]])[1]? = some [.fs 3 [QE QEh]] := rfl
 have hx2 : (List.map QE [QEh])[0]? = some (QE QEh) := rfl
 rw [QM3, decide_eq_true QLl] at hu
 rw [QKN, decide_eq_true QLl] at hp
 refine FnC.intro QA Tryz.func20 rfl Tryz.ntmps20 Tryz.call20 rfl (bll rfl) rfl ?_
 (repeat' ((conv=>whnf);first|with_reducible refine gA ?_|((with_reducible refine QB ?_); first | refine CallE.con ⟨_, hs, ?_⟩ | refine CallE.inl ?_) | ((with_reducible refine ZB ?_); with_reducible refine CallI.inl QA i33 rfl ?_)|(with_reducible first|refine gB ?_|refine gZ (fun x hx hu=>?_)|refine gY (fun x hx=>?_)|refine gE ?_|refine QC.mk ?_ ?_|refine gS (fun h=>?_) (fun h=>?_)|refine Spl.nt ?_|refine Spl.mk (fun h=>?_) (fun h=>?_))))
 refine CallI.wkCon (τ := ⟨[(2, .ptr 3 0), (19, .ag 2 [.d (.fs 32 (sM.map QO)), .tg 36 (sW.map Zi)])], [(3, .cells 2 [.d (.fs 32 (sM.map QO)), .tg 36 (sW.map Zi)])], 4⟩) ht (Wk.frzMsAL 2 2080 _ rfl (ai ⟨_, rfl, .now MsV.now⟩ (ai ⟨_, rfl, MsA.first (.inr ⟨32, 0, 65, 65, sM.map QO, rfl, rfl, by decide, by kernel_rfl, ?_, by kernel_rfl⟩) rfl (fun x hx => by obtain rfl := List.mem_singleton.1 hx; rfl)⟩ trivial)) (ai ⟨rfl, _, rfl, MsO.first (.inr ⟨32, 0, 65, 65, sM.map QO, rfl, rfl, by decide, by kernel_rfl, ?_, by kernel_rfl⟩) rfl (fun x hx => by obtain rfl := List.mem_singleton.1 hx; rfl)⟩ trivial) rfl) rfl rfl ?_
 ·exact hx32
 ·exact hx32
 ·(repeat' ((conv=>whnf);first|with_reducible refine gA ?_|((with_reducible refine QB ?_); first | refine CallE.con ⟨_, hu, ?_⟩ | refine CallE.con ⟨_, hp, ?_⟩) | ((with_reducible refine Yb ?_); first | refine XD hx0 ?_ | refine QIq hx1 ?_ | refine XD hx2 ?_)|(with_reducible first|refine gB ?_|refine gZ (fun x hx hu=>?_)|refine gY (fun x hx=>?_)|refine gE ?_|refine QC.mk ?_ ?_|refine gS (fun h=>?_) (fun h=>?_)|refine Spl.nt ?_|refine Spl.mk (fun h=>?_) (fun h=>?_))))
  rfl
def ltA (L : List (List D)) (i : Nat) : S := ⟨[(4, .d (.fs 1 L)), (6, .d (.fs 1 L)), (16, .d (.it .i64 (i : Nat)))], [], 0⟩
theorem QIr (m : List (List UInt8)) (hm : Z7 m) (ws : List Wr) (hw : Xj ws) : FnC Tryz.prog 4 [.dg 2 (Qh m ws)] (.d (.bl true)) := by
 have hml : (m.map QO).length = m.length := List.length_map ..
 have hwl : (ws.map Zi).length = ws.length := List.length_map ..
 have hk := QG9
 by_cases hs : m.length ≤ 105 ∧ ws.length ≤ 40
 ·have a1 := Y8 m hm (by omega) ws hw
  have a2 := QBU m hm (by omega) ws hw (by omega)
  have a3 := QFs m hm (by omega) ws hw
  have a4 := QKJ m hm (by omega) ws hw (by omega)
  have a5 := QFr m hm (by omega) ws hw
  have a6 := QKH m hm (by omega) ws hw (by omega)
  rw [← QLk] at a4
  have hlL : (Qv (Q6 m ws)).length = (Q6 m ws).length := List.length_map ..
  have hl1 := Yw m ws
  have hel := Jt m ws
  have hpl : (JW m ws).length ≤ 64000 := by
   have h1 := JV (Q6 m ws).flatten rfl
   have h2 := flat_len hel
   unfold JW
   omega
  have hsl : (QAE m ws).length ≤ 64000 := Nat.le_trans (List.length_filter_le _ _) hpl
  have e1 := QAy (QAE m ws) (QAE m ws) (by omega)
  have e2 := QAy (JW m ws) (JW m ws) (by omega)
  rw [decide_eq_true rfl] at e1 e2
  refine FnC.intro QA Tryz.func4 rfl Tryz.ntmps4 Tryz.call4 rfl (bll rfl) rfl ?_
  unfold Qh at a1 a2 a3 a4 a5 a6 ⊢
  generalize QAE m ws = SU at *
  generalize JW m ws = PE at *
  generalize Q6 m ws = L at *
  generalize decide (YG m ws) = b at *
  cases b
  all_goals (repeat' ((conv=>whnf);first|with_reducible refine gA ?_|((with_reducible refine QB ?_); first | refine CallE.con ⟨_, hk, ?_⟩ | refine CallE.con ⟨_, a1, ?_⟩ | refine CallE.con ⟨_, a2, ?_⟩ | refine CallE.con ⟨_, a3, ?_⟩ | refine CallE.con ⟨_, a4, ?_⟩ | refine CallE.con ⟨_, a5, ?_⟩ | refine CallE.con ⟨_, a6, ?_⟩ | refine CallE.con ⟨_, e1, ?_⟩ | refine CallE.con ⟨_, e2, ?_⟩)|(with_reducible first|refine gB ?_|refine gZ (fun x hx hu=>?_)|refine gY (fun x hx=>?_)|refine gE ?_|refine QC.mk ?_ ?_|refine gS (fun h=>?_) (fun h=>?_)|refine Spl.nt ?_|refine Spl.mk (fun h=>?_) (fun h=>?_))))
  all_goals first | (exfalso; omega) | skip
  all_goals (conv => whnf)
  all_goals
   refine QV QA (fun i : Nat => i ≤ L.length) (fun i => ltA (Qv L) i) (fun i => L.length - i) 0 (Nat.zero_le _) (Wk.en ⟨ai rfl (ai rfl (ai rfl trivial)), trivial, rfl⟩) ?_
   intro i hi
   by_cases hil : i < L.length
   ·obtain ⟨t, hti⟩ := QX hil
    have htl := hel t (List.mem_of_getElem? hti)
    have hte : (Qv L)[i]? = some [.fs 3 (t.map QE)] := by unfold Qv; rw [List.getElem?_map, hti]; rfl
    have heq := QAy t t (by omega)
    rw [decide_eq_true rfl] at heq
    generalize Qv L = LL at *
    unfold ltA
    (repeat' ((conv=>whnf);first|with_reducible refine gA ?_|refine Q0 hte ?_ | ((with_reducible refine QB ?_); refine CallE.con ⟨_, heq, ?_⟩) | ((with_reducible refine XP ?_); refine Qe.mk ⟨_, heq, ?_⟩) | with_reducible refine AtA.mk' ?_|(with_reducible first|refine gB ?_|refine gZ (fun x hx hu=>?_)|refine gY (fun x hx=>?_)|refine gE ?_|refine QC.mk ?_ ?_|refine gS (fun h=>?_) (fun h=>?_)|refine Spl.nt ?_|refine Spl.mk (fun h=>?_) (fun h=>?_))))
    exact ⟨i + 1, hil, by first | omega | (dsimp only; omega), Wk.en ⟨ai rfl (ai rfl (ai (QG (by omega)) trivial)), trivial, rfl⟩⟩
   ·unfold ltA
    (repeat' ((conv=>whnf);first|with_reducible refine gA ?_|(with_reducible first|refine gB ?_|refine gZ (fun x hx hu=>?_)|refine gY (fun x hx=>?_)|refine gE ?_|refine QC.mk ?_ ?_|refine gS (fun h=>?_) (fun h=>?_)|refine Spl.nt ?_|refine Spl.mk (fun h=>?_) (fun h=>?_))))
    rfl
 ·refine FnC.intro QA Tryz.func4 rfl Tryz.ntmps4 Tryz.call4 rfl (bll rfl) rfl ?_
  unfold Qh
  by_cases h1 : m.length ≤ 105
  all_goals by_cases h2 : ws.length ≤ 40
  all_goals (repeat' ((conv=>whnf);first|with_reducible refine gA ?_|((with_reducible refine QB ?_); (refine CallE.con ⟨_, hk, ?_⟩))|(with_reducible first|refine gB ?_|refine gZ (fun x hx hu=>?_)|refine gY (fun x hx=>?_)|refine gE ?_|refine QC.mk ?_ ?_|refine gS (fun h=>?_) (fun h=>?_)|refine Spl.nt ?_|refine Spl.mk (fun h=>?_) (fun h=>?_))))
  all_goals first | rfl | (exfalso; omega)
end Go.Proofs.YthknbpijaoljgaaGreatDoor
