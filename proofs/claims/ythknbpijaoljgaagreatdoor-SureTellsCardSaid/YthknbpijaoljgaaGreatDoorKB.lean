/- Contracts of the functions that the law reaches, and the law. Conditions: none. -/
import Derived.Test.YthknbpijaoljgaaGreatDoorKA
import Derived.Test.YthknbpijaoljgaaGreatDoorSD
set_option maxRecDepth 100000
set_option linter.all false
set_option maxHeartbeats 16000000
namespace Go.Proofs.YthknbpijaoljgaaGreatDoor
open Go.Sy
def QMl (m : List (List UInt8)) : Prop := m.length = 65 ∧ imS m 0 = QGx ∧ QIg (imS m 1) ∧ (QCd (imS m 1)).k = 2
instance (m : List (List UInt8)) : Decidable (QMl m) := by unfold QMl; infer_instance
def QHq (g : Nat → UInt8) : List UInt8 := [g 0, g 1, g 2, g 3, g 4, g 5, g 6, g 7, g 8, g 9, g 10, g 11, g 12, g 13, g 14, g 15, g 16, g 17, g 18, g 19, g 20, g 21, g 22, g 23, g 24, g 25, g 26, g 27, g 28, g 29, g 30, g 31]
theorem QGy {s : List UInt8} (h : s.length = 32) : ∃ g, s = QHq g := by
 refine ⟨fun i => s.getD i 0, ?_⟩
 refine List.ext_getElem (by rw [h]; rfl) fun i h1 h2 => ?_
 have h3 : QHq (fun i => s.getD i 0) = (List.range 32).map (fun i => s.getD i 0) := rfl
 simp only [h3, List.getElem_map, List.getElem_range]
 rw [List.getD_eq_getElem?_getD, List.getElem?_eq_getElem h1]; rfl
def QNn (w : Wr) : List D := [.it .i64 1] ++ Zi w ++ [.fs 2 []]
def okW (n : Nat) (w : Wr) : Bool := decide (0 ≤ w.a ∧ w.a < n)
def wts (n : Nat) (ws : List Wr) : List Wr := (ws.filter (okW n)).map fun w => { w with e := 0 }
def QMN (m : List (List UInt8)) (ws : List Wr) : Option Dk := if 1 ≤ m.length ∧ m.length ≤ 65 then some ⟨ws.length, m, wts m.length ws, (wts m.length ws).map QNn, 0⟩ else none
def Xj (ws : List Wr) : Prop := ∀ w ∈ ws, w.s.length = 32
def QOb (d : Option Dk) : List (List UInt8) := match d with
 | none => []
 | some dk => (List.range dk.safe.length).map fun k : Nat => rdS d (k : Nat)
theorem QMO {sz n i a b : Nat} (h : a = b) : AV.vx sz n i a = AV.vx sz n i b := by rw [h]
theorem QJb {t sz : Nat} {a b : List (List D)} {f : Bool} (h : a = b) : Ob.vec t sz a f = Ob.vec t sz b f := by rw [h]
theorem QHr {L : List (List UInt8)} {s : List UInt8} {j k : Nat} (hj : j = k) (hk : k < L.length) : (L.map QO).take j ++ [QO s] ++ (L.map QO).drop (j + 1) = (L.set k s).map QO := by
 subst hj
 rw [List.set_eq_take_append_cons_drop, if_pos hk, List.map_append, List.map_cons, List.map_take, List.map_drop, List.append_assoc]; rfl
def QGz (m : List (List UInt8)) (w : Wr) : List (List UInt8) := if 0 ≤ w.a ∧ w.a < m.length then m.set w.a.toNat w.s else m
theorem QJc (m : List (List UInt8)) (w : Wr) : (QGz m w).length = m.length := by unfold QGz; split <;> simp
def QDS (f : Int → List UInt8) (p : Int) (k : Nat) : Prop := (QQ f k).u = true ∧ (QQ f k).p = p ∧ (QL f (QQ f k).t).k ≠ 0
instance (f : Int → List UInt8) (p : Int) (k : Nat) : Decidable (QDS f p k) := by unfold QDS; infer_instance
def QAM (f : Int → List UInt8) (p : Int) (s : List UInt8) (k : Nat) : Prop := QDS f p k ∧ (QQ f k).n = s
instance (f : Int → List UInt8) (p : Int) (s : List UInt8) (k : Nat) : Decidable (QAM f p s k) := by unfold QAM; infer_instance
def YB (f : Int → List UInt8) (p : Int) (s : List UInt8) : Option Nat := (List.range 24).find? fun k => decide (QAM f p s k)
def QCe (o : Option Nat) : AV := match o with
 | some k => .tup [.d (.it .i64 (k : Nat)), .d (.bl true)]
 | none => .tup [.d (.it .i64 0), .d (.bl false)]
theorem QDl {f : Int → List UInt8} {p : Int} {s : List UInt8} {k : Nat} (hk : k < 24) (h : QAM f p s k) (hn : ∀ j : Nat, j < k → ¬ QAM f p s j) : YB f p s = some k := by
 unfold YB
 refine List.find?_eq_some_iff_getElem.2 ⟨decide_eq_true h, k, by simpa using hk, by simp, fun j hj => ?_⟩
 simp only [List.getElem_range]
 simpa using hn j hj
theorem QDm {f : Int → List UInt8} {p : Int} {s : List UInt8} (hn : ∀ j : Nat, j < 24 → ¬ QAM f p s j) : YB f p s = none := by
 unfold YB
 rw [List.find?_eq_none]
 intro j hj
 simpa using hn j (List.mem_range.1 hj)
def fdA (F1 F2 : Func) (d : Option Dk) (p : Int) (s : List UInt8) (k : Nat) : S := ⟨[(0, .yld 12), (1, .ptr 10 0), (5, .d (.it .i64 (k : Nat)))],
  [(12, rgL 11 F1), (11, .frame 30 [(1, .ptr 4 0), (2, .ptr 5 0), (3, .ptr 8 0)]), (10, .cells 1 [.d (Zc d)]), (8, .cells 1 [.yld 7]), (7, rgL 6 F2), (6, .frame 21 [(5, .ptr 0 0), (6, .ptr 1 0), (7, .ptr 2 0)]),
   (5, .cells 1 [.d (.it .i64 p)]), (4, .cells 1 [.d (Zc d)]), (2, .cells 1 [.d (.bl false)]), (1, .cells 1 [.d (.it .i64 0)]), (0, .cells 1 [.d (.st s)])], 13⟩
theorem QCC (d : Option Dk) (hd : QAr d) (p : Int) (s : List UInt8) : FnC Tryz.prog 113 [.d (Zc d), .d (.it .i64 p), .d (.st s)] (QCe (YB (rdS d) p s)) := by
 have he := fun k => Yo d hd k
 generalize hR : QCe (YB (rdS d) p s) = R
 have hRP : R.isP = true := by rw [← hR]; unfold QCe; split <;> rfl
 refine FnC.intro QA Tryz.func113 rfl Tryz.ntmps113 Tryz.call113 rfl (bll rfl) hRP ?_
 (repeat' ((conv=>whnf);first|with_reducible refine gA ?_|((with_reducible refine QB ?_); refine CallE.inl ?_) | with_reducible refine CallI.inl QA QNa rfl ?_|(with_reducible first|refine gB ?_|refine gZ (fun x hx hu=>?_)|refine gY (fun x hx=>?_)|refine gE ?_|refine QC.mk ?_ ?_|refine gS (fun h=>?_) (fun h=>?_)|refine Spl.nt ?_|refine Spl.mk (fun h=>?_) (fun h=>?_))))
 refine Qw.intro QA QNd rfl rfl ?_
 (repeat' ((conv=>whnf);first|with_reducible refine gA ?_|((with_reducible refine QB ?_); refine CallE.inl ?_) | with_reducible refine CallI.inl QA QNZ rfl ?_|(with_reducible first|refine gB ?_|refine gZ (fun x hx hu=>?_)|refine gY (fun x hx=>?_)|refine gE ?_|refine QC.mk ?_ ?_|refine gS (fun h=>?_) (fun h=>?_)|refine Spl.nt ?_|refine Spl.mk (fun h=>?_) (fun h=>?_))))
 refine Qw.intro QA QNc rfl rfl ?_
 (repeat' ((conv=>whnf);first|with_reducible refine gA ?_|(with_reducible first|refine gB ?_|refine gZ (fun x hx hu=>?_)|refine gY (fun x hx=>?_)|refine gE ?_|refine QC.mk ?_ ?_|refine gS (fun h=>?_) (fun h=>?_)|refine Spl.nt ?_|refine Spl.mk (fun h=>?_) (fun h=>?_))))
 conv => whnf
 refine Qt.wk (τ := fdA Tryz.f170 Tryz.f113 d p s 0) (Wk.enF (ai rfl (ai rfl (ai rfl trivial))) (by (repeat (first | exact trivial | refine ai (QN rfl (by with_unfolding_all exact rfl)) ?_ | refine ai (QM (by with_unfolding_all exact rfl) (by (repeat (first | exact trivial | refine ai (by with_unfolding_all exact rfl) ?_)))) ?_))) rfl) ?_
 refine QV QA (fun k : Nat => k ≤ 24 ∧ ∀ j : Nat, j < k → ¬ QAM (rdS d) p s j) (fdA Tryz.f170 Tryz.f113 d p s) (fun k => 24 - k) 0 ⟨Nat.zero_le _, fun j hj => by omega⟩ (Wk.en ⟨ai rfl (ai rfl (ai rfl trivial)), (by (repeat (first | exact trivial | refine ai rfl ?_))), rfl⟩) ?_
 intro k hk0
 have k1 := hk0.1
 have k2 := hk0.2
 by_cases hk : k < 24
 ·have hek := he (k : Nat)
  have next : ¬ QAM (rdS d) p s k → ∀ j : Nat, j < k + 1 → ¬ QAM (rdS d) p s j := fun hn j hj => by
   rcases Nat.lt_or_ge j k with hjk | hjk
   ·exact k2 j hjk
   ·obtain rfl : j = k := by omega
    exact hn
  by_cases hu : (QQ (rdS d) k).u = false
  ·have hek' : Yg (QQ (rdS d) k) = [.bl false, .it .i64 (QQ (rdS d) k).p, .st (QQ (rdS d) k).n, .it .i64 (QQ (rdS d) k).t] := by rw [Yg, hu]
   rw [hek'] at hek
   (repeat' ((conv=>whnf);first|with_reducible refine gA ?_|((with_reducible refine QB ?_); (refine CallE.con ⟨_, hek, ?_⟩))|(with_reducible first|refine gB ?_|refine gZ (fun x hx hu=>?_)|refine gY (fun x hx=>?_)|refine gE ?_|refine QC.mk ?_ ?_|refine gS (fun h=>?_) (fun h=>?_)|refine Spl.nt ?_|refine Spl.mk (fun h=>?_) (fun h=>?_))))
   refine ⟨k + 1, ⟨by omega, next (fun q => by rw [q.1.1] at hu; cases hu)⟩, by dsimp only; omega, Wk.enF (ai rfl (ai rfl (ai (QG (by omega)) trivial))) (by (repeat (first | exact trivial | refine ai (QN rfl (by with_unfolding_all exact rfl)) ?_ | refine ai (QM (by with_unfolding_all exact rfl) (by (repeat (first | exact trivial | refine ai (by with_unfolding_all exact rfl) ?_)))) ?_))) rfl⟩
  ·have hu' : (QQ (rdS d) k).u = true := by simpa using hu
   have hek' : Yg (QQ (rdS d) k) = [.bl true, .it .i64 (QQ (rdS d) k).p, .st (QQ (rdS d) k).n, .it .i64 (QQ (rdS d) k).t] := by rw [Yg, hu']
   rw [hek'] at hek
   have hin := YA d hd (QQ (rdS d) k).t
   (repeat' ((conv=>whnf);first|with_reducible refine gA ?_|((with_reducible refine QB ?_); first | (refine CallE.con ⟨_, hek, ?_⟩) | (refine CallE.con ⟨_, hin, ?_⟩)) | with_reducible refine ZD.intro QA (by with_unfolding_all exact rfl) (by with_unfolding_all exact rfl) (by with_unfolding_all exact rfl) ?_|(with_reducible first|refine gB ?_|refine gZ (fun x hx hu=>?_)|refine gY (fun x hx=>?_)|refine gE ?_|refine QC.mk ?_ ?_|refine gS (fun h=>?_) (fun h=>?_)|refine Spl.nt ?_|refine Spl.mk (fun h=>?_) (fun h=>?_))))
   ·have hv : QCe (YB (rdS d) p s) = QCe (some k) := by rw [QDl hk ⟨⟨hu', by assumption, by assumption⟩, by assumption⟩ k2]
    exact hv.symm.trans hR
   ·refine ⟨k + 1, ⟨by omega, next (fun q => (by assumption : ¬ _) q.2)⟩, by dsimp only; omega, Wk.enF (ai rfl (ai rfl (ai (QG (by omega)) trivial))) (by (repeat (first | exact trivial | refine ai (QN rfl (by with_unfolding_all exact rfl)) ?_ | refine ai (QM (by with_unfolding_all exact rfl) (by (repeat (first | exact trivial | refine ai (by with_unfolding_all exact rfl) ?_)))) ?_))) rfl⟩
   ·refine ⟨k + 1, ⟨by omega, next (fun q => q.1.2.2 (by assumption))⟩, by dsimp only; omega, Wk.enF (ai rfl (ai rfl (ai (QG (by omega)) trivial))) (by (repeat (first | exact trivial | refine ai (QN rfl (by with_unfolding_all exact rfl)) ?_ | refine ai (QM (by with_unfolding_all exact rfl) (by (repeat (first | exact trivial | refine ai (by with_unfolding_all exact rfl) ?_)))) ?_))) rfl⟩
   ·refine ⟨k + 1, ⟨by omega, next (fun q => (by assumption : ¬ _) q.1.2.1)⟩, by dsimp only; omega, Wk.enF (ai rfl (ai rfl (ai (QG (by omega)) trivial))) (by (repeat (first | exact trivial | refine ai (QN rfl (by with_unfolding_all exact rfl)) ?_ | refine ai (QM (by with_unfolding_all exact rfl) (by (repeat (first | exact trivial | refine ai (by with_unfolding_all exact rfl) ?_)))) ?_))) rfl⟩
 ·(repeat' ((conv=>whnf);first|with_reducible refine gA ?_|(with_reducible first|refine gB ?_|refine gZ (fun x hx hu=>?_)|refine gY (fun x hx=>?_)|refine gE ?_|refine QC.mk ?_ ?_|refine gS (fun h=>?_) (fun h=>?_)|refine Spl.nt ?_|refine Spl.mk (fun h=>?_) (fun h=>?_))))
  have hv : QCe (YB (rdS d) p s) = QCe none := by rw [QDm fun j hj => k2 j (by omega)]
  exact hv.symm.trans hR
def XL (l : List (List UInt8)) : List (List UInt8) := l.mergeSort fun x y => decide (x ≤ y)
def vS (l : List (List UInt8)) : List (List D) := l.map fun z => [.st z]
theorem QBR (l : List (List UInt8)) : (XL l).length = l.length := List.length_mergeSort _
theorem QJd (t : Nat) (fl : Bool) (zs : List (List UInt8)) (n : Nat) (hn : zs.length = n) (h0 : 0 < n) (hsz : n < 4611686018427387904) : FnM Tryz.prog 142 true [.vx 1 0 0 n] (.vec t 1 (vS zs) fl) (.vec t 1 (vS (XL zs)) fl) (.tup []) := by
 subst hn
 exact FnM.ofRow (fun l : List UInt8 => Value.string ⟨l.toArray⟩) (fun z => .st z) (fun F x => .st _) (fun F x v h => by cases h; rfl) (m := none) (List.length_mergeSort _) h0 (fun q h => by cases h) Tryz.call142 (fun blk off cap w hH hb hc => (Tryz.slices_Sort_string blk off cap zs w hH hb hsz).mono fun e w' h => h)
theorem QFa (t : Nat) (fl : Bool) (n : Nat) (zs : List (List UInt8)) (hn : zs.length = n) (h0 : 0 < n) (hsz : n < 4611686018427387904) : FnM Tryz.prog 143 true [.vx 1 0 0 n] (.vec t 1 (vS zs) fl) (.vec t 1 (vS (Lib.compact zs ++ List.replicate (zs.length - (Lib.compact zs).length) [])) fl) (.vx 1 0 0 (Lib.compact zs).length) := by
 subst hn
 exact FnM.ofRow (fun l : List UInt8 => Value.string ⟨l.toArray⟩) (fun z => .st z) (fun F x => .st _) (fun F x v h => by cases h; rfl) (m := some (Lib.compact zs).length) (by have := Lib.compact_length_le zs; simp; omega) h0 (fun q h => by cases h; exact Lib.compact_length_le zs) Tryz.call143 (fun blk off cap w hH hb hc => (Tryz.slices_Compact_string blk off cap zs w hH (by omega) hc).mono fun e w' ⟨h1, q, h2⟩ => ⟨h1, q, #[], by rw [Go.Sort.grow_empty]; exact h2⟩)
def ZK (f : Int → List UInt8) (p : Int) (k : Nat) : List (List UInt8) := ((List.range k).filter fun j => decide (QDS f p j)).map fun j : Nat => (QQ f (j : Nat)).n
def nms (f : Int → List UInt8) (p : Int) : List (List UInt8) := Lib.compact (XL (ZK f p 24))
theorem QCf (f : Int → List UInt8) (p : Int) (k : Nat) : (ZK f p k).length ≤ k := by
 unfold ZK
 rw [List.length_map]
 exact Nat.le_trans (List.length_filter_le _ _) (by rw [List.length_range]; exact Nat.le_refl _)
theorem QFb {f : Int → List UInt8} {p : Int} {k : Nat} (h : QDS f p k) : ZK f p (k + 1) = ZK f p k ++ [(QQ f (k : Nat)).n] := by
 unfold ZK
 rw [List.range_succ, List.filter_append, List.map_append]
 simp [h]
theorem QCD {f : Int → List UInt8} {p : Int} {k : Nat} (h : ¬ QDS f p k) : ZK f p (k + 1) = ZK f p k := by
 unfold ZK
 rw [List.range_succ, List.filter_append, List.map_append]
 simp [h]
def lsA (F1 F2 : Func) (d : Option Dk) (p : Int) (k : Nat) (L : List (List UInt8)) : S := ⟨[(0, .yld 11), (1, .ptr 9 0), (5, .d (.it .i64 (k : Nat)))],
  [(11, rgL 10 F1), (10, .frame 30 [(1, .ptr 3 0), (2, .ptr 4 0), (3, .ptr 7 0)]), (9, .cells 1 [.d (Zc d)]), (7, .cells 1 [.yld 6]), (6, rgL 5 F2), (5, .frame 23 [(5, .ptr 1 0)]),
   (4, .cells 1 [.d (.it .i64 p)]), (3, .cells 1 [.d (Zc d)]), (1, .cells 1 [.vx 1 12 0 L.length]), (12, .vec 9 1 (vS L) false)], 13⟩
theorem QAs {N : Nat} {σ τ τ' : S} (e : τ' = τ) (h : Wk N σ τ') : Wk N σ τ := by rw [← e]; exact h
theorem QLO {e : List (List D)} {K : List (List D) → Prop} (h : YS e K) : YS e K := h
theorem QLP {e : Nat} {K : Nat → Prop} (h : Z9 e K) : Z9 e K := h
theorem QMm {L : List (List UInt8)} {x : List UInt8} {n : Nat} (h : n = L.length) : (vS L).take n ++ [[.st x]] = vS (L ++ [x]) := by
 subst h
 unfold vS
 rw [List.take_of_length_le (by rw [List.length_map]; exact Nat.le_refl _), List.map_append]; rfl
theorem QCE (d : Option Dk) (hd : QAr d) (p : Int) : FnC Tryz.prog 112 [.d (Zc d), .d (.it .i64 p)] (.d (.fs 1 (vS (nms (rdS d) p)))) := by
 have he := fun k => Yo d hd k
 refine FnC.intro QA Tryz.func112 rfl Tryz.ntmps112 Tryz.call112 rfl (bll rfl) rfl ?_
 (repeat' ((conv=>whnf);first|with_reducible refine gA ?_|((with_reducible refine QB ?_); refine CallE.inl ?_) | with_reducible refine CallI.inl QA QNa rfl ?_|(with_reducible first|refine gB ?_|refine gZ (fun x hx hu=>?_)|refine gY (fun x hx=>?_)|refine gE ?_|refine QC.mk ?_ ?_|refine gS (fun h=>?_) (fun h=>?_)|refine Spl.nt ?_|refine Spl.mk (fun h=>?_) (fun h=>?_))))
 refine Qw.intro QA QNd rfl rfl ?_
 (repeat' ((conv=>whnf);first|with_reducible refine gA ?_|((with_reducible refine QB ?_); refine CallE.inl ?_) | with_reducible refine CallI.inl QA QNZ rfl ?_|(with_reducible first|refine gB ?_|refine gZ (fun x hx hu=>?_)|refine gY (fun x hx=>?_)|refine gE ?_|refine QC.mk ?_ ?_|refine gS (fun h=>?_) (fun h=>?_)|refine Spl.nt ?_|refine Spl.mk (fun h=>?_) (fun h=>?_))))
 refine Qw.intro QA QNc rfl rfl ?_
 (repeat' ((conv=>whnf);first|with_reducible refine gA ?_|(with_reducible first|refine gB ?_|refine gZ (fun x hx hu=>?_)|refine gY (fun x hx=>?_)|refine gE ?_|refine QC.mk ?_ ?_|refine gS (fun h=>?_) (fun h=>?_)|refine Spl.nt ?_|refine Spl.mk (fun h=>?_) (fun h=>?_))))
 conv => whnf
 refine Qt.wk (Wk.nlVx 1 0 1 1 9 (by with_unfolding_all exact rfl) (by with_unfolding_all exact rfl)) ?_
 refine Qt.wk (τ := lsA Tryz.f170 Tryz.f112 d p 0 []) (Wk.enF (ai rfl (ai rfl (ai rfl trivial))) (by (repeat (first | exact trivial | refine ai (QN rfl (by with_unfolding_all exact rfl)) ?_ | refine ai (QM (by with_unfolding_all exact rfl) (by (repeat (first | exact trivial | refine ai (by with_unfolding_all exact rfl) ?_)))) ?_))) rfl) ?_
 refine QV QA (fun k : Nat => k ≤ 24) (fun k : Nat => lsA Tryz.f170 Tryz.f112 d p k (ZK (rdS d) p k)) (fun k => 24 - k) 0 (Nat.zero_le _) (Wk.en ⟨ai rfl (ai rfl (ai rfl trivial)), (by (repeat (first | exact trivial | refine ai rfl ?_))), rfl⟩) ?_
 intro k k1
 by_cases hk : k < 24
 ·have hek := he (k : Nat)
  have hln := QCf (rdS d) p k
  have hlv : (vS (ZK (rdS d) p k)).length = (ZK (rdS d) p k).length := List.length_map ..
  by_cases hu : (QQ (rdS d) k).u = false
  ·have hek' : Yg (QQ (rdS d) k) = [.bl false, .it .i64 (QQ (rdS d) k).p, .st (QQ (rdS d) k).n, .it .i64 (QQ (rdS d) k).t] := by rw [Yg, hu]
   rw [hek'] at hek
   have hno : ZK (rdS d) p (k + 1) = ZK (rdS d) p k := QCD (fun q => by rw [q.1] at hu; cases hu)
   (repeat' ((conv=>whnf);first|with_reducible refine gA ?_|((with_reducible refine QB ?_); (refine CallE.con ⟨_, hek, ?_⟩))|(with_reducible first|refine gB ?_|refine gZ (fun x hx hu=>?_)|refine gY (fun x hx=>?_)|refine gE ?_|refine QC.mk ?_ ?_|refine gS (fun h=>?_) (fun h=>?_)|refine Spl.nt ?_|refine Spl.mk (fun h=>?_) (fun h=>?_))))
   refine ⟨k + 1, by omega, by dsimp only; omega, QAs (congrArg (lsA Tryz.f170 Tryz.f112 d p (k + 1)) hno.symm) (Wk.enF (ai rfl (ai rfl (ai (QG (by omega)) trivial))) (by (repeat (first | exact trivial | refine ai (QN rfl (by with_unfolding_all exact rfl)) ?_ | refine ai (QM (by with_unfolding_all exact rfl) (by (repeat (first | exact trivial | refine ai (by with_unfolding_all exact rfl) ?_)))) ?_))) rfl)⟩
  ·have hu' : (QQ (rdS d) k).u = true := by simpa using hu
   have hek' : Yg (QQ (rdS d) k) = [.bl true, .it .i64 (QQ (rdS d) k).p, .st (QQ (rdS d) k).n, .it .i64 (QQ (rdS d) k).t] := by rw [Yg, hu']
   rw [hek'] at hek
   have hin := YA d hd (QQ (rdS d) k).t
   (repeat' ((conv=>whnf);first|with_reducible refine gA ?_|((with_reducible refine QB ?_); first | (refine CallE.con ⟨_, hek, ?_⟩) | (refine CallE.con ⟨_, hin, ?_⟩)) | with_reducible refine ZD.intro QA (by with_unfolding_all exact rfl) (by with_unfolding_all exact rfl) (by with_unfolding_all exact rfl) ?_ | ((with_reducible refine QLO ?_); refine YS.mk (vS (ZK (rdS d) p k ++ [(QQ (rdS d) k).n])) (QMm rfl).symm ?_) | ((with_reducible refine QLP ?_); refine Z9.eq (ZK (rdS d) p k ++ [(QQ (rdS d) k).n]).length (by rw [List.length_append]; rfl) ?_)|(with_reducible first|refine gB ?_|refine gZ (fun x hx hu=>?_)|refine gY (fun x hx=>?_)|refine gE ?_|refine QC.mk ?_ ?_|refine gS (fun h=>?_) (fun h=>?_)|refine Spl.nt ?_|refine Spl.mk (fun h=>?_) (fun h=>?_))))
   ·have hyes := QFb (f := rdS d) (p := p) (k := k) ⟨hu', by assumption, by assumption⟩
    refine ⟨k + 1, by omega, by dsimp only; omega, QAs (congrArg (lsA Tryz.f170 Tryz.f112 d p (k + 1)) hyes.symm) (Wk.enF (ai rfl (ai rfl (ai (QG (by omega)) trivial))) (by (repeat (first | exact trivial | refine ai (QN rfl (by with_unfolding_all exact rfl)) ?_ | refine ai (QM (by with_unfolding_all exact rfl) (by (repeat (first | exact trivial | refine ai (by with_unfolding_all exact rfl) ?_)))) ?_))) rfl)⟩
   ·have hno : ZK (rdS d) p (k + 1) = ZK (rdS d) p k := QCD (fun q => q.2.2 (by assumption))
    refine ⟨k + 1, by omega, by dsimp only; omega, QAs (congrArg (lsA Tryz.f170 Tryz.f112 d p (k + 1)) hno.symm) (Wk.enF (ai rfl (ai rfl (ai (QG (by omega)) trivial))) (by (repeat (first | exact trivial | refine ai (QN rfl (by with_unfolding_all exact rfl)) ?_ | refine ai (QM (by with_unfolding_all exact rfl) (by (repeat (first | exact trivial | refine ai (by with_unfolding_all exact rfl) ?_)))) ?_))) rfl)⟩
   ·have hno : ZK (rdS d) p (k + 1) = ZK (rdS d) p k := QCD (fun q => (by assumption : ¬ _) q.2.1)
    refine ⟨k + 1, by omega, by dsimp only; omega, QAs (congrArg (lsA Tryz.f170 Tryz.f112 d p (k + 1)) hno.symm) (Wk.enF (ai rfl (ai rfl (ai (QG (by omega)) trivial))) (by (repeat (first | exact trivial | refine ai (QN rfl (by with_unfolding_all exact rfl)) ?_ | refine ai (QM (by with_unfolding_all exact rfl) (by (repeat (first | exact trivial | refine ai (by with_unfolding_all exact rfl) ?_)))) ?_))) rfl)⟩
 ·have hk24 : k = 24 := by omega
  have hln := QCf (rdS d) p k
  have hR : nms (rdS d) p = Lib.compact (XL (ZK (rdS d) p k)) := by unfold nms; rw [hk24]
  by_cases hL : (ZK (rdS d) p k).length = 0
  ·have hnil : ZK (rdS d) p k = [] := List.length_eq_zero_iff.1 hL
   have hR0 : nms (rdS d) p = [] := by
    rw [hR, hnil]
    exact List.length_eq_zero_iff.1 (Nat.le_zero.1 (by have := Lib.compact_length_le (XL ([] : List (List UInt8))); rw [QBR] at this; exact this))
   (repeat' ((conv=>whnf);first|with_reducible refine gA ?_|((with_reducible refine QB ?_); refine CallE.inl ?_) | ((with_reducible refine ZB ?_); first | refine CallI.none0 Tryz.call142 Tryz.slices_Sort_string_none (by with_unfolding_all exact rfl) hL ?_ | refine CallI.same0 Tryz.call143 Tryz.slices_Compact_string_empty (by with_unfolding_all exact rfl) hL ?_)|(with_reducible first|refine gB ?_|refine gZ (fun x hx hu=>?_)|refine gY (fun x hx=>?_)|refine gE ?_|refine QC.mk ?_ ?_|refine gS (fun h=>?_) (fun h=>?_)|refine Spl.nt ?_|refine Spl.mk (fun h=>?_) (fun h=>?_))))
   refine QIO ?_
   rw [hR0, hnil]; rfl
  ·have hpos : 0 < (ZK (rdS d) p k).length := by omega
   have hcl : (Lib.compact (XL (ZK (rdS d) p k))).length ≤ (XL (ZK (rdS d) p k)).length := Lib.compact_length_le _
   (repeat' ((conv=>whnf);first|with_reducible refine gA ?_|((with_reducible refine QB ?_); refine CallE.inl ?_) | ((with_reducible refine ZB ?_); first | refine CallI.byM (QJd 9 false (ZK (rdS d) p k) _ rfl hpos (by omega)) (by with_unfolding_all exact rfl) rfl ?_ | refine CallI.byM (QFa 9 false (ZK (rdS d) p k).length (XL (ZK (rdS d) p k)) (QBR _) hpos (by omega)) (by with_unfolding_all exact rfl) rfl ?_)|(with_reducible first|refine gB ?_|refine gZ (fun x hx hu=>?_)|refine gY (fun x hx=>?_)|refine gE ?_|refine QC.mk ?_ ?_|refine gS (fun h=>?_) (fun h=>?_)|refine Spl.nt ?_|refine Spl.mk (fun h=>?_) (fun h=>?_))))
   refine ai ?_ ?_
   ·show 0 + (Lib.compact (XL (ZK (rdS d) p k))).length ≤ (vS (Lib.compact (XL (ZK (rdS d) p k)) ++ _)).length
    unfold vS
    rw [List.length_map, List.length_append]; omega
   ·(repeat' ((conv=>whnf);first|with_reducible refine gA ?_|(with_reducible first|refine gB ?_|refine gZ (fun x hx hu=>?_)|refine gY (fun x hx=>?_)|refine gE ?_|refine QC.mk ?_ ?_|refine gS (fun h=>?_) (fun h=>?_)|refine Spl.nt ?_|refine Spl.mk (fun h=>?_) (fun h=>?_))))
    refine QIO ?_
    rw [hR]
    show (List.drop 0 (vS (_ ++ _))).take _ = _
    unfold vS
    rw [List.drop_zero, List.map_append, List.take_left' (List.length_map ..)]
theorem Zb : ∀ a b : List UInt8, Op.bytesLess a b = true ↔ a < b
 | [], [] => by simp [Op.bytesLess]
 | [], _ :: _ => by simp [Op.bytesLess]
 | _ :: _, [] => by simp [Op.bytesLess]
 | a :: s, b :: t => by
  rw [List.cons_lt_cons_iff, ← Zb s t]
  simp [Op.bytesLess]
theorem QCF (a b : List UInt8) : a ≤ b ↔ Op.bytesLess b a = false := by
 rw [← Bool.not_eq_true, Zb]; exact Iff.rfl
theorem QNo {a b c : List UInt8} (h : a ≤ b) (k : b ≤ c) : a ≤ c := by
 rw [QCF] at h k ⊢
 cases hc : Op.bytesLess c a with
 | false => rfl
 | true =>
  cases hb : Op.bytesLess c b with
  | true => rw [hb] at k; cases k
  | false =>
   have := QAi c b hb
   cases hb' : Op.bytesLess b c with
   | false => rw [this hb'] at hc; rw [hc] at h; cases h
   | true => rw [X7 b c a hb' hc] at h; cases h
theorem QBo {a b : List UInt8} (h : a ≤ b) (k : a ≠ b) : a < b := by
 rw [← Zb]
 rw [QCF] at h
 cases hc : Op.bytesLess a b with
 | true => rfl
 | false => exact absurd (QAi a b hc h) k
theorem QFc {a b c : List UInt8} (h : a ≤ b) (k : b < c) : a < c := by
 by_cases e : a = b
 ·rw [e]; exact k
 ·have := QBo h e
  rw [← Zb] at this k ⊢
  exact X7 a b c this k
theorem Xk (a : List UInt8) : ¬ a < a := by rw [← Zb, QAh]; simp
theorem QAt (l : List (List UInt8)) : (XL l).Pairwise (· ≤ ·) := by
 have := List.pairwise_mergeSort (le := fun x y : List UInt8 => decide (x ≤ y)) (fun a b c h k => by simp only [decide_eq_true_eq] at h k ⊢; exact QNo h k)
  (fun a b => by
   simp only [Bool.or_eq_true, decide_eq_true_eq, QCF]
   cases h : Op.bytesLess b a with
   | false => exact .inl rfl
   | true => exact .inr (QCW b a h)) l
 exact this.imp fun h => by simpa using h
theorem JR {l : List (List UInt8)} (h : l.Pairwise (· ≤ ·)) : (Lib.compact l).Pairwise (· < ·) := by
 have hg : ∀ i j (hi : i < l.length) (hj : j < l.length), i ≤ j → l[i] ≤ l[j] := fun i j hi hj hij => by
  rcases Nat.lt_or_eq_of_le hij with h1 | rfl
  ·exact List.pairwise_iff_getElem.1 h i j hi hj h1
  ·rw [QCF]; exact QAh _
 have hb : ∀ i (hi : i < l.length), (l.toArray)[i]! = l[i] := fun i hi => by
  rw [getElem!_pos l.toArray i (by simpa using hi)]; simp
 unfold Lib.compact Lib.compactUpTo
 rw [List.pairwise_map, List.pairwise_filter]
 refine List.pairwise_lt_range.imp_of_mem fun {i j} hi hj hij _ hk => ?_
 rw [List.mem_range] at hi hj
 unfold Lib.keeps at hk
 have hk := of_decide_eq_true hk
 rcases hk with hk | hk
 ·omega
 ·rw [hb j hj, hb (j - 1) (by omega)] at hk
  rw [hb i hi, hb j hj]
  exact QFc (hg i (j - 1) hi (by omega) (by omega)) (QBo (hg (j - 1) j (by omega) hj (by omega)) fun e => hk e.symm)
theorem YZ {l : List (List UInt8)} (x : List UInt8) : x ∈ Lib.compact l ↔ x ∈ l := by
 have hb : ∀ i (hi : i < l.length), (l.toArray)[i]! = l[i] := fun i hi => by
  rw [getElem!_pos l.toArray i (by simpa using hi)]; simp
 unfold Lib.compact Lib.compactUpTo
 constructor
 ·intro h
  obtain ⟨i, hi, rfl⟩ := List.mem_map.1 h
  have := List.mem_range.1 (List.mem_filter.1 hi).1
  rw [hb i this]
  exact List.getElem_mem _
 ·intro h
  have key : ∀ i (hi : i < l.length), l[i] ∈ ((List.range l.length).filter (Lib.keeps l.toArray)).map (l.toArray[·]!) := by
   intro i
   induction i with
   | zero =>
    intro hi
    refine List.mem_map.2 ⟨0, List.mem_filter.2 ⟨List.mem_range.2 hi, by simp [Lib.keeps]⟩, hb 0 hi⟩
   | succ i ih =>
    intro hi
    by_cases e : l[i + 1] = l[i]
    ·rw [e]; exact ih (by omega)
    ·refine List.mem_map.2 ⟨i + 1, List.mem_filter.2 ⟨List.mem_range.2 hi, ?_⟩, hb _ hi⟩
     unfold Lib.keeps
     refine decide_eq_true (.inr ?_)
     rw [hb _ hi, Nat.add_sub_cancel, hb i (by omega)]
     exact e
  obtain ⟨i, hi, rfl⟩ := List.getElem_of_mem h
  exact key i hi
def QDn (last : List UInt8) (o : Option (List UInt8)) (x : List UInt8) : Option (List UInt8) := match o with
 | none => if last < x then some x else none
 | some y => if last < x ∧ x < y then some x else some y
def Yp (last : List UInt8) (L : List (List UInt8)) : Option (List UInt8) := L.foldl (QDn last) none
theorem QJe (last : List UInt8) : ∀ (L : List (List UInt8)), (Yp last L = none → ∀ x ∈ L, ¬ last < x) ∧ ∀ y, Yp last L = some y → y ∈ L ∧ last < y ∧ ∀ x ∈ L, last < x → ¬ x < y := by
 suffices h : ∀ (n : Nat) (L : List (List UInt8)), L.length = n → (Yp last L = none → ∀ x ∈ L, ¬ last < x) ∧ ∀ y, Yp last L = some y → y ∈ L ∧ last < y ∧ ∀ x ∈ L, last < x → ¬ x < y from fun L => h _ L rfl
 intro n
 induction n with
 | zero => intro L hL; obtain rfl := List.length_eq_zero_iff.1 hL; exact ⟨fun _ x h => (by cases h), fun y h => (by cases h)⟩
 | succ n ih =>
  intro L hL
  have hne : L ≠ [] := by rintro rfl; cases hL
  have e : L = L.dropLast ++ [L.getLast hne] := (List.dropLast_concat_getLast hne).symm
  generalize L.getLast hne = x at e
  have hl : L.dropLast.length = n := by rw [List.length_dropLast]; omega
  generalize L.dropLast = M at e hl
  subst e
  have h := ih M hl
  have hp : Yp last (M ++ [x]) = QDn last (Yp last M) x := by unfold Yp; rw [List.foldl_append]; rfl
  rw [hp]
  cases hm : Yp last M with
  | none =>
   have h1 := h.1 hm
   unfold QDn
   dsimp only
   by_cases hx : last < x
   ·rw [if_pos hx]
    refine ⟨fun q => (by cases q), fun y q => ?_⟩
    obtain rfl := Option.some.inj q
    refine ⟨by simp, hx, fun z hz hlz => ?_⟩
    rcases List.mem_append.1 hz with hz | hz
    ·exact absurd hlz (h1 z hz)
    ·obtain rfl := List.mem_singleton.1 hz; exact Xk _
   ·rw [if_neg hx]
    refine ⟨fun _ z hz => ?_, fun y q => by cases q⟩
    rcases List.mem_append.1 hz with hz | hz
    ·exact h1 z hz
    ·obtain rfl := List.mem_singleton.1 hz; exact hx
  | some y =>
   obtain ⟨h1, h2, h3⟩ := h.2 y hm
   unfold QDn
   dsimp only
   by_cases hx : last < x ∧ x < y
   ·rw [if_pos hx]
    refine ⟨fun q => (by cases q), fun z q => ?_⟩
    obtain rfl := Option.some.inj q
    refine ⟨by simp, hx.1, fun z hz hlz => ?_⟩
    rcases List.mem_append.1 hz with hz | hz
    ·intro hzx
     refine h3 z hz hlz ?_
     rw [← Zb] at hzx ⊢
     exact X7 _ _ _ hzx ((Zb _ _).2 hx.2)
    ·obtain rfl := List.mem_singleton.1 hz; exact Xk _
   ·rw [if_neg hx]
    refine ⟨fun q => (by cases q), fun z q => ?_⟩
    obtain rfl := Option.some.inj q
    refine ⟨by simp [h1], h2, fun z hz hlz => ?_⟩
    rcases List.mem_append.1 hz with hz | hz
    ·exact h3 z hz hlz
    ·obtain rfl := List.mem_singleton.1 hz; exact fun q => hx ⟨hlz, q⟩
def ZN (S : List (List UInt8)) (i : Nat) : List UInt8 := match i with
 | 0 => []
 | j + 1 => S.getD j []
theorem QLQ {L S : List (List UInt8)} (hs : S.Pairwise (· < ·)) (hm : ∀ x, x ∈ S ↔ x ∈ L) (hne : ∀ x ∈ L, x ≠ []) (i : Nat) (hi : i ≤ S.length) : Yp (ZN S i) L = S[i]? := by
 have hlt : ∀ a b (ha : a < S.length) (hb : b < S.length), a < b → S[a] < S[b] := fun a b ha hb h => List.pairwise_iff_getElem.1 hs a b ha hb h
 have hup : ∀ j (hj : j < S.length), i ≤ j → ZN S i < S[j] := by
  intro j hj hij
  cases i with
  | zero =>
   show [] < S[j]
   have := hne S[j] ((hm _).1 (List.getElem_mem _))
   cases h : S[j] with
   | nil => exact absurd h this
   | cons a t => rw [← Zb]; rfl
  | succ k =>
   show S.getD k [] < S[j]
   rw [List.getD_eq_getElem?_getD, List.getElem?_eq_getElem (by omega), Option.getD_some]
   exact hlt k j (by omega) hj (by omega)
 have hdn : ∀ j (hj : j < S.length), j < i → ¬ ZN S i < S[j] := by
  intro j hj hij
  cases i with
  | zero => omega
  | succ k =>
   show ¬ S.getD k [] < S[j]
   rw [List.getD_eq_getElem?_getD, List.getElem?_eq_getElem (by omega), Option.getD_some]
   rcases Nat.lt_or_eq_of_le (Nat.le_of_lt_succ hij) with h | rfl
   ·intro q
    have := hlt j k hj (by omega) h
    rw [← Zb] at q this
    rw [QCW _ _ q] at this; cases this
   ·exact Xk _
 have h := QJe (ZN S i) L
 rcases Nat.lt_or_ge i S.length with hil | hil
 ·rw [List.getElem?_eq_getElem hil]
  have hup' := hup i hil (Nat.le_refl _)
  cases hp : Yp (ZN S i) L with
  | none => exact absurd hup' (h.1 hp _ ((hm _).1 (List.getElem_mem _)))
  | some y =>
   obtain ⟨h1, h2, h3⟩ := h.2 y hp
   obtain ⟨j, hj, rfl⟩ := List.getElem_of_mem ((hm y).2 h1)
   have hij : ¬ j < i := fun q => hdn j hj q h2
   have hji : ¬ i < j := fun q => h3 _ ((hm _).1 (List.getElem_mem _)) hup' (hlt i j hil hj q)
   have : i = j := by omega
   subst this; rfl
 ·rw [List.getElem?_eq_none hil]
  cases hp : Yp (ZN S i) L with
  | none => rfl
  | some y =>
   obtain ⟨h1, h2, _⟩ := h.2 y hp
   obtain ⟨j, hj, rfl⟩ := List.getElem_of_mem ((hm y).2 h1)
   exact absurd h2 (hdn j hj (by omega))
def kOf (f : Int → List UInt8) (n : Int) (s : List UInt8) : Int := match YB f n s with
 | some k => (k : Nat)
 | none => 0
def mOf (f : Int → List UInt8) (n : Int) (s : List UInt8) : Int := (QQ f (kOf f n s)).t
def ZE (f : Int → List UInt8) (x : Ino) : List UInt8 := (f (40 + x.b0) ++ f (40 + x.b1) ++ f (40 + x.b2) ++ f (40 + x.b3)).take x.z.toNat
def Qa (f : Int → List UInt8) (way : List (List UInt8)) (n : Int) (s : List UInt8) : Nod := ⟨Xf (way ++ [s]), (QL f (mOf f n s)).k == 2, ZE f (QL f (mOf f n s))⟩
def QR (f : Int → List UInt8) : Nat → Int → List (List UInt8) → List Nod
 | 0, _, _ => []
 | j + 1, n, way => (nms f n).flatMap fun s => Qa f way n s :: (if (QL f (mOf f n s)).k = 2 then QR f j (mOf f n s) (way ++ [s]) else [])
def JK (f : Int → List UInt8) (j : Nat) (n : Int) (way : List (List UInt8)) (l : List (List UInt8)) : List Nod := l.flatMap fun s => Qa f way n s :: (if (QL f (mOf f n s)).k = 2 then QR f j (mOf f n s) (way ++ [s]) else [])
theorem Yq (f : Int → List UInt8) (j : Nat) (n : Int) (way : List (List UInt8)) (s : List UInt8) (l : List (List UInt8)) : JK f j n way (s :: l) = Qa f way n s :: ((if (QL f (mOf f n s)).k = 2 then QR f j (mOf f n s) (way ++ [s]) else []) ++ JK f j n way l) := by
 unfold JK
 rw [List.flatMap_cons]; rfl
def Xz (L : List Nod) : List Nod × Bool := (L.take 64, decide (L.length ≤ 64))
def Zo (f : Int → List UInt8) : List Nod × Bool := if (QL f 0).k = 2 then Xz (QR f 4 0 []) else ([], true)
def QMn (r : List Nod × Bool) : AV := .tup [.d (.fs 3 (r.1.map QE)), .d (.bl r.2)]
theorem QJf (f : Int → List UInt8) (k : Int) : RE (QQ f k) := by
 unfold QQ
 split
 ·unfold Yn
  split
  ·rename_i h; exact h.1
  ·exact .inl ⟨rfl, rfl, rfl, rfl⟩
 ·exact .inl ⟨rfl, rfl, rfl, rfl⟩
theorem Yr (f : Int → List UInt8) (n : Int) : RI (QL f n) := by
 have h0 : RI QId := by decide
 unfold QL
 split
 ·unfold QCd
  split
  ·rename_i h; exact h.1
  ·exact h0
 ·exact h0
theorem XB (f : Int → List UInt8) (n : Int) : ∀ s ∈ nms f n, ZV s = true := by
 intro s hs
 unfold nms at hs
 rw [YZ] at hs
 have hs := (List.mem_mergeSort).1 hs
 unfold ZK at hs
 obtain ⟨k, hk, rfl⟩ := List.mem_map.1 hs
 have := of_decide_eq_true (List.mem_filter.1 hk).2
 have hu := this.1
 rcases QJf f (k : Nat) with h | h
 ·rw [h.1] at hu; cases hu
 ·exact h.2.2.2.2.2
theorem JS {s : List UInt8} (h : ZV s = true) : s.length ≤ 8 := by
 unfold ZV at h
 rw [Bool.and_eq_true] at h
 exact (of_decide_eq_true h.1).2.1
theorem Jn (f : Int → List UInt8) (n : Int) : (nms f n).length ≤ 24 := by
 unfold nms
 have h1 := Lib.compact_length_le (XL (ZK f n 24))
 have h2 := QCf f n 24
 rw [QBR] at h1
 omega
def JH (f : Int → List UInt8) (n : Int) (s : List UInt8) : Int × Int := if (QL f n).k = 2 then (match YB f n s with | none => (0, 4) | some k => ((QQ f (k : Nat)).t, 0)) else (0, 6)
def lkp (f : Int → List UInt8) : List (List UInt8) → Int → Int × Int
 | [], n => (n, 0)
 | s :: t, n => if (JH f n s).2 = 0 then lkp f t (JH f n s).1 else (0, (JH f n s).2)
def QAu (f : Int → List UInt8) (p : List UInt8) : Int × Int := if (ZR p).2 = 0 then lkp f (ZR p).1 0 else (0, (ZR p).2)
theorem QG0 (p : List UInt8) : (ZR p).1.length ≤ 4 := by
 unfold ZR
 split
 ·exact Nat.zero_le _
 ·split
  ·exact Nat.zero_le _
  ·split
   ·split
    ·rename_i h3; exact h3.1
    ·exact Nat.zero_le _
   ·exact Nat.zero_le _
theorem QJg {s : List UInt8} (h : ZV s = true) : s.all (fun b => b != 47) = true := by
 simp only [ZV, Bool.and_eq_true, List.all_eq_true] at h
 rw [List.all_eq_true]
 intro b hb
 have := h.2 b hb
 simp only [Q1, decide_eq_true_eq] at this
 rw [bne_iff_ne]
 intro e
 subst e
 revert this; decide
theorem QFd : ∀ (l : List (List UInt8)), (∀ s ∈ l, ZV s = true) → pw (Q3 l) = l
 | [], _ => rfl
 | s :: t, h => by
  have e : Q3 (s :: t) = 47 :: (s ++ Q3 t) := by simp [Q3]
  rw [e, pw, QCY ?_ (QJg (h s (List.mem_cons_self ..))), QFd t fun x hx => h x (List.mem_cons_of_mem _ hx)]
  cases t with
  | nil => exact .inl rfl
  | cons a b => right; simp [Q3]
theorem Ya {l : List (List UInt8)} (h : ∀ s ∈ l, ZV s = true) (h4 : l.length ≤ 4) : ZR (Xf l) = (l, 0) := by
 by_cases h0 : l = []
 ·subst h0; rfl
 ·have hp := QFd l h
  rw [Xf, if_neg h0]
  have hh : (Q3 l)[0]? = some 47 := by
   cases l with
   | nil => exact absurd rfl h0
   | cons a b => simp [Q3]
  have h1 : ¬ Q3 l = [47] := fun e => by
   rw [e] at hp
   have e2 : l = [[]] := hp.symm
   subst e2
   have := h [] (List.mem_cons_self ..)
   revert this; decide
  rw [QGp h1 hh (by rw [hp]; exact h4) (by rw [hp, List.all_eq_true]; exact h), hp]
theorem QBp {p : List UInt8} (h : (ZR p).2 = 0) : Xf (ZR p).1 = p := by
 unfold ZR at h ⊢
 split
 ·rename_i h1; subst h1; rfl
 ·rename_i h1
  rw [if_neg h1] at h
  cases p with
  | nil => exact absurd h (by decide)
  | cons b r =>
   simp only at h ⊢
   split
   ·rename_i h2
    rw [if_pos h2] at h
    subst h2
    split
    ·rw [Xf, if_neg (QDg 47 r), QFM]
    ·rename_i h3; rw [if_neg h3] at h; exact absurd h (by decide)
   ·rename_i h2; rw [if_neg h2] at h; exact absurd h (by decide)
theorem QCG (f : Int → List UInt8) : ∀ (a b : List (List UInt8)) (n m : Int), lkp f a n = (m, 0) → lkp f (a ++ b) n = lkp f b m
 | [], b, n, m, h => by
  rw [lkp] at h
  obtain rfl : n = m := (Prod.ext_iff.1 h).1
  rfl
 | s :: t, b, n, m, h => by
  rw [List.cons_append, lkp]
  rw [lkp] at h
  by_cases h0 : (JH f n s).2 = 0
  ·rw [if_pos h0] at h ⊢
   exact QCG f t b _ m h
  ·rw [if_neg h0] at h
   exact absurd (Prod.ext_iff.1 h).2 h0
theorem QHs (f : Int → List UInt8) (n : Int) (s : List UInt8) : s ∈ nms f n ↔ ∃ k, YB f n s = some k ∧ QAM f n s k := by
 unfold nms
 rw [YZ, XL, List.mem_mergeSort, ZK]
 constructor
 ·intro h
  obtain ⟨k, hk, e⟩ := List.mem_map.1 h
  obtain ⟨hk, hs⟩ := List.mem_filter.1 hk
  have hs := of_decide_eq_true hs
  cases hf : YB f n s with
  | none =>
   unfold YB at hf
   rw [List.find?_eq_none] at hf
   exact absurd (decide_eq_true (⟨hs, e⟩ : QAM f n s k)) (hf k hk)
  | some j =>
   refine ⟨j, rfl, ?_⟩
   unfold YB at hf
   have := List.find?_some hf
   exact of_decide_eq_true this
 ·rintro ⟨k, hk, hp⟩
  unfold YB at hk
  exact List.mem_map.2 ⟨k, List.mem_filter.2 ⟨List.mem_of_find?_eq_some hk, decide_eq_true hp.1⟩, hp.2⟩
theorem QCg {f : Int → List UInt8} {n : Int} {s : List UInt8} (h2 : (QL f n).k = 2) (hs : s ∈ nms f n) : JH f n s = (mOf f n s, 0) ∧ (QL f (mOf f n s)).k ≠ 0 := by
 obtain ⟨k, hk, hp⟩ := (QHs f n s).1 hs
 have e : mOf f n s = (QQ f (k : Nat)).t := by unfold mOf kOf; rw [hk]
 refine ⟨?_, ?_⟩
 ·unfold JH; rw [if_pos h2, hk, e]
 ·rw [e]; exact hp.1.2.2
theorem QCh {f : Int → List UInt8} {n : Int} {s : List UInt8} (h : (JH f n s).2 = 0) : (QL f n).k = 2 ∧ s ∈ nms f n ∧ (JH f n s).1 = mOf f n s := by
 unfold JH at h ⊢
 by_cases h2 : (QL f n).k = 2
 ·rw [if_pos h2] at h ⊢
  cases hk : YB f n s with
  | none => rw [hk] at h; cases h
  | some k =>
   refine ⟨h2, (QHs f n s).2 ⟨k, hk, ?_⟩, ?_⟩
   ·unfold YB at hk
    have := List.find?_some hk
    exact of_decide_eq_true this
   ·unfold mOf kOf; rw [hk]
 ·rw [if_neg h2] at h; exact absurd h (by decide)
def QJh (f : Int → List UInt8) (way rest : List (List UInt8)) (x : Nod) : Prop :=
 ∃ m : Int, x.p = Xf (way ++ rest) ∧ (∀ s ∈ rest, ZV s = true) ∧ rest ≠ [] ∧ lkp f (way ++ rest) 0 = (m, 0) ∧ x.d = ((QL f m).k == 2) ∧ (QL f m).k ≠ 0 ∧ x.x = ZE f (QL f m)
theorem QCH (f : Int → List UInt8) : ∀ (j : Nat) (n : Int) (way : List (List UInt8)), lkp f way 0 = (n, 0) → (QL f n).k = 2 → ∀ x ∈ QR f j n way, ∃ rest, rest.length ≤ j ∧ QJh f way rest x
 | 0, _, _, _, _, x, hx => by cases hx
 | j + 1, n, way, hw, h2, x, hx => by
  rw [QR] at hx
  obtain ⟨s, hs, hx⟩ := List.mem_flatMap.1 hx
  obtain ⟨e1, e2⟩ := QCg h2 hs
  have hn := XB f n s hs
  have hw' : lkp f (way ++ [s]) 0 = (mOf f n s, 0) := by
   rw [QCG f way [s] 0 n hw, lkp, e1, if_pos rfl, lkp]
  rcases List.mem_cons.1 hx with rfl | hx
  ·exact ⟨[s], by simp, mOf f n s, rfl, fun a ha => by rw [List.mem_singleton.1 ha]; exact hn, by simp, hw', rfl, e2, rfl⟩
  ·by_cases hk : (QL f (mOf f n s)).k = 2
   ·rw [if_pos hk] at hx
    obtain ⟨r, hr, m, a1, a2, a3, a4, a5, a6, a7⟩ := QCH f j (mOf f n s) (way ++ [s]) hw' hk x hx
    rw [List.append_assoc] at a1 a4
    refine ⟨[s] ++ r, by simp; omega, m, a1, fun a ha => ?_, by simp, a4, a5, a6, a7⟩
    rcases List.mem_append.1 ha with ha | ha
    ·rw [List.mem_singleton.1 ha]; exact hn
    ·exact a2 a ha
   ·rw [if_neg hk] at hx; cases hx
theorem QHt (f : Int → List UInt8) : ∀ (j : Nat) (n : Int) (way : List (List UInt8)) (rest : List (List UInt8)) (m : Int), rest ≠ [] → rest.length ≤ j → lkp f rest n = (m, 0) → ∃ x ∈ QR f j n way, x.p = Xf (way ++ rest)
 | j, n, way, [], m, h0, _, _ => absurd rfl h0
 | 0, n, way, s :: t, m, _, hj, _ => by cases hj
 | j + 1, n, way, s :: t, m, _, hj, h => by
  rw [lkp] at h
  by_cases h0 : (JH f n s).2 = 0
  ·rw [if_pos h0] at h
   obtain ⟨a1, a2, a3⟩ := QCh h0
   rw [a3] at h
   rw [QR]
   by_cases ht : t = []
   ·subst ht
    exact ⟨_, List.mem_flatMap.2 ⟨s, a2, List.mem_cons_self ..⟩, rfl⟩
   ·have hk : (QL f (mOf f n s)).k = 2 := by
     cases t with
     | nil => exact absurd rfl ht
     | cons a b =>
      rw [lkp] at h
      by_cases hs : (JH f (mOf f n s) a).2 = 0
      ·exact (QCh hs).1
      ·rw [if_neg hs] at h; exact absurd (Prod.ext_iff.1 h).2 hs
    obtain ⟨x, hx, e⟩ := QHt f j (mOf f n s) (way ++ [s]) t m ht (by simp at hj; omega) h
    refine ⟨x, List.mem_flatMap.2 ⟨s, a2, List.mem_cons_of_mem _ (by rw [if_pos hk]; exact hx)⟩, ?_⟩
    rw [e, List.append_assoc]; rfl
  ·rw [if_neg h0] at h; exact absurd (Prod.ext_iff.1 h).2 h0
theorem QCi : ∀ (w a b : List (List UInt8)), QEW (w ++ a) (w ++ b) = QEW a b
 | [], _, _ => rfl
 | x :: w, a, b => by rw [List.cons_append, List.cons_append, QEW, if_pos rfl, QCi w]
theorem QFe (f : Int → List UInt8) : ∀ (j : Nat) (n : Int) (way : List (List UInt8)), lkp f way 0 = (n, 0) → (QL f n).k = 2 → (∀ s ∈ way, ZV s = true) → way.length + j ≤ 4 → (QR f j n way).Pairwise fun x y => QEW (key x.p) (key y.p) = true
 | 0, _, _, _, _, _, _ => List.Pairwise.nil
 | j + 1, n, way, hw, h2, hn, h4 => by
  have hkey : ∀ (i : Nat) (w rest : List (List UInt8)) (x : Nod), QJh f w rest x → (∀ s ∈ w, ZV s = true) → (w ++ rest).length ≤ 4 → key x.p = w ++ rest := fun i w rest x ⟨m, a1, a2, _⟩ hw hl => by
   unfold key
   rw [a1, Ya (fun s hs => (List.mem_append.1 hs).elim (hw s) (a2 s)) hl]
  have hone : ∀ s ∈ nms f n, ∀ x ∈ (Qa f way n s :: (if (QL f (mOf f n s)).k = 2 then QR f j (mOf f n s) (way ++ [s]) else [])), ∃ r, key x.p = way ++ (s :: r) := by
   intro s hs x hx
   obtain ⟨e1, e2⟩ := QCg h2 hs
   have hns := XB f n s hs
   have hw' : lkp f (way ++ [s]) 0 = (mOf f n s, 0) := by
    rw [QCG f way [s] 0 n hw, lkp, e1, if_pos rfl, lkp]
   rcases List.mem_cons.1 hx with rfl | hx
   ·refine ⟨[], ?_⟩
    show key (Xf (way ++ [s])) = _
    unfold key
    rw [Ya (fun a ha => (List.mem_append.1 ha).elim (hn a) fun q => by rw [List.mem_singleton.1 q]; exact hns) (by simp; omega)]
   ·by_cases hk : (QL f (mOf f n s)).k = 2
    ·rw [if_pos hk] at hx
     obtain ⟨r, hr, hf⟩ := QCH f j (mOf f n s) (way ++ [s]) hw' hk x hx
     refine ⟨r, ?_⟩
     rw [hkey j (way ++ [s]) r x hf (fun a ha => (List.mem_append.1 ha).elim (hn a) fun q => by rw [List.mem_singleton.1 q]; exact hns) (by simp; omega), List.append_assoc]; rfl
    ·rw [if_neg hk] at hx; cases hx
  rw [QR, List.pairwise_flatMap]
  refine ⟨fun s hs => ?_, ?_⟩
  ·obtain ⟨e1, e2⟩ := QCg h2 hs
   have hns := XB f n s hs
   have hw' : lkp f (way ++ [s]) 0 = (mOf f n s, 0) := by
    rw [QCG f way [s] 0 n hw, lkp, e1, if_pos rfl, lkp]
   have hnw : ∀ a ∈ way ++ [s], ZV a = true := fun a ha => (List.mem_append.1 ha).elim (hn a) fun q => by rw [List.mem_singleton.1 q]; exact hns
   rw [List.pairwise_cons]
   by_cases hk : (QL f (mOf f n s)).k = 2
   ·rw [if_pos hk]
    refine ⟨fun x hx => ?_, QFe f j (mOf f n s) (way ++ [s]) hw' hk hnw (by simp; omega)⟩
    obtain ⟨r, hr, hf⟩ := QCH f j (mOf f n s) (way ++ [s]) hw' hk x hx
    have e0 : key (Qa f way n s).p = (way ++ [s]) ++ [] := by
     show key (Xf (way ++ [s])) = _
     unfold key
     rw [Ya hnw (by simp; omega), List.append_nil]
    rw [e0, hkey j (way ++ [s]) r x hf hnw (by simp; omega), QCi]
    obtain ⟨m, _, _, a3, _⟩ := hf
    cases r with
    | nil => exact absurd rfl a3
    | cons a b => rfl
   ·rw [if_neg hk]; exact ⟨fun x hx => (List.not_mem_nil hx).elim, List.Pairwise.nil⟩
  ·refine List.Pairwise.imp_of_mem (R := (· < ·)) (fun {s t} hs ht hst x hx y hy => ?_) (JR (QAt _))
   obtain ⟨r, hr⟩ := hone s hs x hx
   obtain ⟨q, hq⟩ := hone t ht y hy
   have : ¬ s = t := fun e => Xk s (by rw [← e] at hst; exact hst)
   rw [hr, hq, QCi, QEW, if_neg this]
   exact (Zb s t).2 hst
def QMo (f : Int → List UInt8) (t : List Nod × Bool) : Prop :=
 t.1.length ≤ 64 ∧ (t.2 = false → t.1.length = 64)
 ∧ (∀ x ∈ t.1, ∃ m : Int, QAu f x.p = (m, 0) ∧ x.d = ((QL f m).k == 2) ∧ (QL f m).k ≠ 0 ∧ x.x = ZE f (QL f m) ∧ x.p ≠ [47])
 ∧ t.1.Pairwise (fun x y => QEW (key x.p) (key y.p) = true)
 ∧ (t.2 = true → ∀ p : List UInt8, (∃ x ∈ t.1, x.p = p) ↔ (QAu f p).2 = 0 ∧ p ≠ [47])
theorem QJi (f : Int → List UInt8) : QMo f (Zo f) := by
 unfold Zo
 by_cases h2 : (QL f 0).k = 2
 ·rw [if_pos h2]
  have hm : ∀ x ∈ QR f 4 0 [], ∃ m : Int, QAu f x.p = (m, 0) ∧ x.d = ((QL f m).k == 2) ∧ (QL f m).k ≠ 0 ∧ x.x = ZE f (QL f m) ∧ x.p ≠ [47] := by
   intro x hx
   obtain ⟨r, hr, m, a1, a2, a3, a4, a5, a6, a7⟩ := QCH f 4 0 [] rfl h2 x hx
   rw [List.nil_append] at a1 a4
   have e := Ya a2 hr
   refine ⟨m, ?_, a5, a6, a7, fun q => ?_⟩
   ·unfold QAu; rw [a1, e, if_pos rfl, a4]
   ·rw [← a1, q] at e
    exact a3 (Prod.ext_iff.1 e).1.symm
  have hs := QFe f 4 0 [] rfl h2 (fun s hs => by cases hs) (Nat.le_refl 4)
  unfold Xz
  refine ⟨by simp only [List.length_take]; omega, fun h => ?_, fun x hx => hm x (List.mem_of_mem_take hx), hs.sublist (List.take_sublist ..), fun h p => ?_⟩
  ·have := of_decide_eq_false h
   simp only [List.length_take]; omega
  ·have h := of_decide_eq_true h
   simp only [List.take_of_length_le h]
   constructor
   ·rintro ⟨x, hx, rfl⟩
    obtain ⟨m, a1, _, _, _, a2⟩ := hm x hx
    exact ⟨by rw [a1], a2⟩
   ·rintro ⟨h0, h1⟩
    have hsp : (ZR p).2 = 0 := by
     unfold QAu at h0
     by_cases q : (ZR p).2 = 0
     ·exact q
     ·rw [if_neg q] at h0; exact h0
    have e := QBp hsp
    unfold QAu at h0
    rw [if_pos hsp] at h0
    obtain ⟨x, hx, ex⟩ := QHt f 4 0 [] (ZR p).1 (lkp f (ZR p).1 0).1 (fun q => by rw [q] at e; exact h1 e.symm) (QG0 p) (Prod.ext rfl h0)
    exact ⟨x, hx, by rw [ex, List.nil_append, e]⟩
 ·rw [if_neg h2]
  refine ⟨Nat.zero_le _, fun h => (by cases h), fun x hx => (List.not_mem_nil hx).elim, List.Pairwise.nil, fun _ p => ?_⟩
  constructor
  ·rintro ⟨x, hx, _⟩; cases hx
  ·rintro ⟨h0, h1⟩
   exfalso
   unfold QAu at h0
   by_cases q : (ZR p).2 = 0
   ·rw [if_pos q] at h0
    have e := QBp q
    cases hp : (ZR p).1 with
    | nil => rw [hp] at e; exact h1 e.symm
    | cons a b =>
     rw [hp, lkp] at h0
     by_cases hs : (JH f 0 a).2 = 0
     ·exact h2 (QCh hs).1
     ·rw [if_neg hs] at h0; exact hs h0
   ·rw [if_neg q] at h0; exact q h0
def dg (k i : Nat) : Nat := k / 2 ^ i % 2
def Q5 (k : Nat) : Nat → Nat
 | 0 => 0
 | i + 1 => Q5 k i + dg k i * 4 ^ i
theorem QCj (k i : Nat) : dg k i < 2 := Nat.mod_lt _ (by decide)
theorem QCI (k : Nat) : ∀ i, Q5 k i < 4 ^ i
 | 0 => (by show 0 < 4 ^ 0; decide)
 | i + 1 => by
  have h1 := QCI k i
  have h2 := QCj k i
  show Q5 k i + dg k i * 4 ^ i < 4 ^ (i + 1)
  rw [Nat.pow_succ]
  have : dg k i * 4 ^ i ≤ 1 * 4 ^ i := Nat.mul_le_mul_right _ (by omega)
  omega
theorem QLR (k i : Nat) : Q5 k i ||| dg k i * 4 ^ i = Q5 k (i + 1) := by
 have h1 := QCI k i
 have h4 : 4 ^ i = 2 ^ (2 * i) := by rw [Nat.pow_mul]
 show _ = Q5 k i + dg k i * 4 ^ i
 rw [h4] at h1 ⊢
 rw [Nat.or_comm, Nat.mul_comm, ← Nat.two_pow_add_eq_or_of_lt h1, Nat.add_comm]
def cpw (i : Nat) : Nat := 2 ^ i
theorem QFf (i : Nat) : cpw (i + 1) = cpw i * 2 := Nat.pow_succ ..
theorem YC {i : Nat} (h : i ≤ 8) : 1 ≤ cpw i ∧ cpw i ≤ 256 := by
 have : ∀ i ≤ 8, 1 ≤ cpw i ∧ cpw i ≤ 256 := by decide
 exact this i h
theorem QMP {i : Nat} (h : i ≤ 8) : 4 ^ i ≤ 65536 := by
 have : ∀ i ≤ 8, 4 ^ i ≤ 65536 := by decide
 exact this i h
theorem Qc.as {e z : Int} {K : Int → Prop} (h : e = z) (hK : K z) : Qc e K := ⟨h ▸ hK⟩
theorem Y6 {e : Int} {K : Int → Prop} (h : Qc e K) : Qc e K := h
theorem Zp {e : Int} (h : 0 ≤ e ∧ e ≤ 18446744073709551615) : IntKind.u64.wrap e = e := by
 have := Qc.u64 (K := fun z => z = e) h rfl
 exact this.run
theorem QOc {a b c : Nat} (ha : a ≤ 18446744073709551615) (hb : b ≤ 18446744073709551615) (hc : c ≤ 18446744073709551615) (h : a ||| b = c) : IntKind.u64.wrap (BitVec.ofInt IntKind.u64.bits (a : Int) ||| BitVec.ofInt IntKind.u64.bits (b : Int)).toNat = (c : Int) := by
 have e : (BitVec.ofInt IntKind.u64.bits (a : Int) ||| BitVec.ofInt IntKind.u64.bits (b : Int)).toNat = c := by
  show (BitVec.ofInt 64 (a : Int) ||| BitVec.ofInt 64 (b : Int)).toNat = c
  rw [BitVec.toNat_or, BitVec.ofInt_natCast, BitVec.ofInt_natCast, BitVec.toNat_ofNat, BitVec.toNat_ofNat, Nat.mod_eq_of_lt (by omega), Nat.mod_eq_of_lt (by omega), h]
 rw [e, Zp (by omega)]
theorem QJj {a b c : Nat} (ha : a ≤ 18446744073709551615) (hb : b ≤ 18446744073709551615) (h : a &&& b = c) : IntKind.u64.wrap (BitVec.ofInt IntKind.u64.bits (a : Int) &&& BitVec.ofInt IntKind.u64.bits (b : Int)).toNat = (c : Int) := by
 have e : (BitVec.ofInt IntKind.u64.bits (a : Int) &&& BitVec.ofInt IntKind.u64.bits (b : Int)).toNat = c := by
  show (BitVec.ofInt 64 (a : Int) &&& BitVec.ofInt 64 (b : Int)).toNat = c
  rw [BitVec.toNat_and, BitVec.ofInt_natCast, BitVec.ofInt_natCast, BitVec.toNat_ofNat, BitVec.toNat_ofNat, Nat.mod_eq_of_lt (by omega), Nat.mod_eq_of_lt (by omega), h]
 have : c ≤ a := h ▸ Nat.and_le_left
 rw [e, Zp (by omega)]
theorem QFg : FnC Tryz.prog 167 [.d (.bl false)] (.d (.it .u64 2)) := by
 refine FnC.intro QA Tryz.func167 rfl Tryz.ntmps167 Tryz.call167 rfl (bll rfl) rfl ?_
 (repeat' ((conv=>whnf);first|with_reducible refine gA ?_|(with_reducible first|refine gB ?_|refine gZ (fun x hx hu=>?_)|refine gY (fun x hx=>?_)|refine gE ?_|refine QC.mk ?_ ?_|refine gS (fun h=>?_) (fun h=>?_)|refine Spl.nt ?_|refine Spl.mk (fun h=>?_) (fun h=>?_))))
 rfl
theorem QFh : FnC Tryz.prog 131 [.d (.bl false)] (.d (.it .u64 2)) := by
 refine FnC.intro QA Tryz.func131 rfl Tryz.ntmps131 Tryz.call131 rfl (bll rfl) rfl ?_
 (repeat' ((conv=>whnf);first|with_reducible refine gA ?_|(with_reducible first|refine gB ?_|refine gZ (fun x hx hu=>?_)|refine gY (fun x hx=>?_)|refine gE ?_|refine QC.mk ?_ ?_|refine gS (fun h=>?_) (fun h=>?_)|refine Spl.nt ?_|refine Spl.mk (fun h=>?_) (fun h=>?_))))
 rfl
theorem QDo (n : Nat) (hn : n ≤ 8) : FnC Tryz.prog 129 [.d (.it .i64 (n : Nat)), .d (.bl false)] (.d (.it .u64 (cpw n : Nat))) := by
 have hb := QFg
 refine FnC.intro QA Tryz.func129 rfl Tryz.ntmps129 Tryz.call129 rfl (bll rfl) rfl ?_
 (repeat' ((conv=>whnf);first|with_reducible refine gA ?_|(with_reducible first|refine gB ?_|refine gZ (fun x hx hu=>?_)|refine gY (fun x hx=>?_)|refine gE ?_|refine QC.mk ?_ ?_|refine gS (fun h=>?_) (fun h=>?_)|refine Spl.nt ?_|refine Spl.mk (fun h=>?_) (fun h=>?_))))
 all_goals first | (exfalso; omega) | skip
 all_goals (
  refine QT QA (fun i : Nat => i ≤ n) (fun i => ⟨[(1, .d (.bl false)), (5, .d (.it .u64 (cpw i : Nat))), (12, .d (.it .i64 (n : Nat))), (13, .d (.it .i64 (i : Nat)))], [], 0⟩) (fun i => n - i) 0 (Nat.zero_le _) ⟨ai rfl (ai rfl (ai rfl (ai rfl trivial))), trivial, rfl⟩ ?_
  intro i hi
  have hpi := YC (show i ≤ 8 by omega)
  by_cases hin : i < n
  ·(repeat' ((conv=>whnf);first|with_reducible refine gA ?_|((with_reducible refine QB ?_); refine CallE.con ⟨_, hb, ?_⟩) | with_reducible refine Qe.mk ⟨_, hb, ?_⟩|(with_reducible first|refine gB ?_|refine gZ (fun x hx hu=>?_)|refine gY (fun x hx=>?_)|refine gE ?_|refine QC.mk ?_ ?_|refine gS (fun h=>?_) (fun h=>?_)|refine Spl.nt ?_|refine Spl.mk (fun h=>?_) (fun h=>?_))))
   refine again (i + 1) hin (by first | omega | (dsimp only; omega)) (ai rfl (ai (QG (by rw [QFf]; omega)) (ai rfl (ai (QG (by omega)) trivial)))) trivial rfl
  ·(repeat' ((conv=>whnf);first|with_reducible refine gA ?_|(with_reducible first|refine gB ?_|refine gZ (fun x hx hu=>?_)|refine gY (fun x hx=>?_)|refine gE ?_|refine QC.mk ?_ ?_|refine gS (fun h=>?_) (fun h=>?_)|refine Spl.nt ?_|refine Spl.mk (fun h=>?_) (fun h=>?_))))
   exact QG (by rw [show i = n by omega]))
theorem QDp (n : Nat) (hn : n ≤ 8) : FnC Tryz.prog 100 [.d (.it .i64 (n : Nat)), .d (.bl false)] (.d (.it .u64 (cpw n : Nat))) := by
 have hb := QFh
 refine FnC.intro QA Tryz.func100 rfl Tryz.ntmps100 Tryz.call100 rfl (bll rfl) rfl ?_
 (repeat' ((conv=>whnf);first|with_reducible refine gA ?_|(with_reducible first|refine gB ?_|refine gZ (fun x hx hu=>?_)|refine gY (fun x hx=>?_)|refine gE ?_|refine QC.mk ?_ ?_|refine gS (fun h=>?_) (fun h=>?_)|refine Spl.nt ?_|refine Spl.mk (fun h=>?_) (fun h=>?_))))
 all_goals first | (exfalso; omega) | skip
 all_goals (
  refine QT QA (fun i : Nat => i ≤ n) (fun i => ⟨[(0, .d (.it .i64 (n : Nat))), (1, .d (.bl false)), (5, .d (.it .u64 (cpw i : Nat))), (6, .d (.it .i64 (i : Nat)))], [], 0⟩) (fun i => n - i) 0 (Nat.zero_le _) ⟨ai rfl (ai rfl (ai rfl (ai rfl trivial))), trivial, rfl⟩ ?_
  intro i hi
  have hpi := YC (show i ≤ 8 by omega)
  by_cases hin : i < n
  ·(repeat' ((conv=>whnf);first|with_reducible refine gA ?_|((with_reducible refine QB ?_); refine CallE.con ⟨_, hb, ?_⟩) | with_reducible refine Qe.mk ⟨_, hb, ?_⟩|(with_reducible first|refine gB ?_|refine gZ (fun x hx hu=>?_)|refine gY (fun x hx=>?_)|refine gE ?_|refine QC.mk ?_ ?_|refine gS (fun h=>?_) (fun h=>?_)|refine Spl.nt ?_|refine Spl.mk (fun h=>?_) (fun h=>?_))))
   refine again (i + 1) hin (by first | omega | (dsimp only; omega)) (ai rfl (ai rfl (ai (QG (by rw [QFf]; omega)) (ai (QG (by omega)) trivial)))) trivial rfl
  ·(repeat' ((conv=>whnf);first|with_reducible refine gA ?_|(with_reducible first|refine gB ?_|refine gZ (fun x hx hu=>?_)|refine gY (fun x hx=>?_)|refine gE ?_|refine QC.mk ?_ ?_|refine gS (fun h=>?_) (fun h=>?_)|refine Spl.nt ?_|refine Spl.mk (fun h=>?_) (fun h=>?_))))
   exact QG (by rw [show i = n by omega]))
theorem QLS (i : Nat) (h : i < 32) : FnC Tryz.prog 108 [.d (.it .i64 (i : Nat))] (.d (.bl true)) := by
 refine FnC.intro QA Tryz.func108 rfl Tryz.ntmps108 Tryz.call108 rfl (bll rfl) rfl ?_
 (repeat' ((conv=>whnf);first|with_reducible refine gA ?_|(with_reducible first|refine gB ?_|refine gZ (fun x hx hu=>?_)|refine gY (fun x hx=>?_)|refine gE ?_|refine QC.mk ?_ ?_|refine gS (fun h=>?_) (fun h=>?_)|refine Spl.nt ?_|refine Spl.mk (fun h=>?_) (fun h=>?_))))
 all_goals first | (exfalso; omega) | exact XI (by simp; omega)
theorem QJk (c i : Nat) (h : i < 32) : Int.fdiv (c : Int) (2 ^ (min ((2 * (i : Int)).toNat) IntKind.u64.bits)) = ((c / 4 ^ i : Nat) : Int) := by
 have e : min ((2 * (i : Int)).toNat) IntKind.u64.bits = 2 * i := by
  show min ((2 * (i : Int)).toNat) 64 = 2 * i
  omega
 have e2 : ((2 : Int) ^ (2 * i)) = ((4 ^ i : Nat) : Int) := by rw [show (4 : Nat) ^ i = 2 ^ (2 * i) by rw [Nat.pow_mul], Int.natCast_pow]; rfl
 rw [e, e2, Int.fdiv_eq_ediv_of_nonneg _ (Int.natCast_nonneg _)]
 rfl
theorem QHu (c i : Nat) (hc : c ≤ 65535) (h : i < 32) : FnC Tryz.prog 67 [.d (.it .u64 (c : Nat)), .d (.it .i64 (i : Nat))] (.d (.it .i64 (c / 4 ^ i % 4 : Nat))) := by
 have hb := QLS i h
 have h1 : c / 4 ^ i ≤ c := Nat.div_le_self ..
 have h2 : c / 4 ^ i &&& 3 = c / 4 ^ i % 4 := Nat.and_two_pow_sub_one_eq_mod (c / 4 ^ i) 2
 have h3 := QJk c i h
 refine FnC.intro QA Tryz.func67 rfl Tryz.ntmps67 Tryz.call67 rfl (bll rfl) rfl ?_
 (repeat' ((conv=>whnf);first|with_reducible refine gA ?_|((with_reducible refine QB ?_); refine CallE.con ⟨_, hb, ?_⟩) | with_reducible refine Qe.mk ⟨_, hb, ?_⟩ | ((with_reducible refine Y6 ?_); first | refine Qc.as (Zp (by omega)) ?_ | refine Qc.as h3 ?_ | refine Qc.as (QJj (b := 3) (by omega) (by omega) h2) ?_)|(with_reducible first|refine gB ?_|refine gZ (fun x hx hu=>?_)|refine gY (fun x hx=>?_)|refine gE ?_|refine QC.mk ?_ ?_|refine gS (fun h=>?_) (fun h=>?_)|refine Spl.nt ?_|refine Spl.mk (fun h=>?_) (fun h=>?_))))
 rfl
theorem Ys : ∀ n ≤ 8, ∀ k < 256, Q5 k n &&& (Q5 k n / 2) = 0 ∧ Q5 k n / 4 ^ n = 0 ∧ ∀ i < n, Q5 k n / 4 ^ i % 4 = dg k i := by decide +kernel
theorem Y7 {k n : Nat} (hn : n ≤ 8) : Q5 k n ≤ 65535 := by
 have h1 := QCI k n
 have h2 := QMP hn
 omega
theorem QJl (k n : Nat) (hn : n ≤ 8) (hk : k < 256) : FnC Tryz.prog 140 [.d (.it .u64 (Q5 k n : Nat)), .d (.it .i64 (n : Nat))] (.d (.bl true)) := by
 have hc := Y7 (k := k) hn
 obtain ⟨h1, h2, _⟩ := Ys n hn k hk
 generalize Q5 k n = c at *
 have h3 := QJk c n (by omega)
 rw [h2] at h3
 have h4 : Int.fdiv (c : Int) (2 ^ (min ((1 : Int)).toNat IntKind.u64.bits)) = ((c / 2 : Nat) : Int) := by
  show Int.fdiv (c : Int) 2 = _
  rw [Int.fdiv_eq_ediv_of_nonneg _ (by decide)]; rfl
 refine FnC.intro QA Tryz.func140 rfl Tryz.ntmps140 Tryz.call140 rfl (bll rfl) rfl ?_
 (repeat' ((conv=>whnf);first|with_reducible refine gA ?_|((with_reducible refine Y6 ?_); first | refine Qc.as (Zp (by omega)) ?_ | refine Qc.as h3 ?_ | refine Qc.as h4 ?_ | refine Qc.as (QJj (b := c / 2) (by omega) (by omega) h1) ?_ | refine Qc.as (QJj (a := 0) (b := 6148914691236517205) (c := 0) (by decide) (by decide) (by decide)) ?_)|(with_reducible first|refine gB ?_|refine gZ (fun x hx hu=>?_)|refine gY (fun x hx=>?_)|refine gE ?_|refine QC.mk ?_ ?_|refine gS (fun h=>?_) (fun h=>?_)|refine Spl.nt ?_|refine Spl.mk (fun h=>?_) (fun h=>?_))))
 all_goals first | (exfalso; omega) | rfl
def kd (k i : Nat) : Nat := k / 2 ^ i
theorem QHv (k i : Nat) : kd k (i + 1) = kd k i / 2 := by unfold kd; rw [Nat.pow_succ, Nat.div_div_eq_div_mul]
theorem QMQ (k i : Nat) : kd k i ≤ k := Nat.div_le_self ..
theorem QMR (k i : Nat) : kd k i % 2 = dg k i := rfl
theorem QMp (k i : Nat) (hi : i ≤ 7) : IntKind.u64.wrap ((((kd k i : Nat) : Int) % 2) * 2 ^ (min ((2 * (i : Int)).toNat) IntKind.u64.bits)) = ((dg k i * 4 ^ i : Nat) : Int) := by
 have e : min ((2 * (i : Int)).toNat) IntKind.u64.bits = 2 * i := by
  show min ((2 * (i : Int)).toNat) 64 = 2 * i
  omega
 have e2 : ((2 : Int) ^ (2 * i)) = ((4 ^ i : Nat) : Int) := by rw [show (4 : Nat) ^ i = 2 ^ (2 * i) by rw [Nat.pow_mul], Int.natCast_pow]; rfl
 have e3 : (((kd k i : Nat) : Int) % 2) = ((dg k i : Nat) : Int) := by rw [← QMR]; rfl
 have h1 := QCj k i
 have h2 := QMP (show i ≤ 8 by omega)
 have h3 : dg k i * 4 ^ i ≤ 1 * 4 ^ i := Nat.mul_le_mul_right _ (by omega)
 rw [e, e2, e3, ← Int.natCast_mul, Zp (by omega)]
theorem QLT (k n : Nat) (hn : n ≤ 8) (hk : k < cpw n) : FnC Tryz.prog 130 [.d (.it .u64 (k : Nat)), .d (.it .i64 (n : Nat)), .d (.bl false)] (.d (.it .u64 (Q5 k n : Nat))) := by
 have hb := QFg
 have hct := QDo n hn
 have hpn := YC hn
 refine FnC.intro QA Tryz.func130 rfl Tryz.ntmps130 Tryz.call130 rfl (bll rfl) rfl ?_
 (repeat' ((conv=>whnf);first|with_reducible refine gA ?_|((with_reducible refine QB ?_); first | refine CallE.con ⟨_, hct, ?_⟩ | refine CallE.con ⟨_, hb, ?_⟩)|(with_reducible first|refine gB ?_|refine gZ (fun x hx hu=>?_)|refine gY (fun x hx=>?_)|refine gE ?_|refine QC.mk ?_ ?_|refine gS (fun h=>?_) (fun h=>?_)|refine Spl.nt ?_|refine Spl.mk (fun h=>?_) (fun h=>?_))))
 all_goals first | (exfalso; omega) | skip
 refine QT QA (fun i : Nat => i ≤ n) (fun i => ⟨[(0, .d (.it .u64 (kd k i : Nat))), (2, .d (.bl false)), (7, .d (.it .u64 (Q5 k i : Nat))), (14, .d (.it .i64 (n : Nat))), (15, .d (.it .i64 (i : Nat)))], [], 0⟩) (fun i => n - i) 0 (Nat.zero_le _) ⟨ai (QG (by show ((k : Nat) : Int) = ((k / 2 ^ 0 : Nat) : Int); rw [Nat.pow_zero, Nat.div_one])) (ai rfl (ai rfl (ai rfl (ai rfl trivial)))), trivial, rfl⟩ ?_
 intro i hi
 by_cases hin : i < n
 ·have hs := QMp k i (by omega)
  have hle := Y7 (k := k) (show i ≤ 8 by omega)
  have hle2 := Y7 (k := k) (show i + 1 ≤ 8 by omega)
  have hor := QLR k i
  have hd4 : dg k i * 4 ^ i ≤ 65535 := by
   have : Q5 k (i + 1) = Q5 k i + dg k i * 4 ^ i := rfl
   omega
  have hkd := QMQ k i
  have hkb : k ≤ 256 := by omega
  (repeat' ((conv=>whnf);first|with_reducible refine gA ?_|((with_reducible refine QB ?_); refine CallE.con ⟨_, hb, ?_⟩) | with_reducible refine Qe.mk ⟨_, hb, ?_⟩ | ((with_reducible refine Y6 ?_); first | refine Qc.as (Zp (by omega)) ?_ | refine Qc.as hs ?_ | refine Qc.as (QOc (by omega) (by omega) (by omega) hor) ?_)|(with_reducible first|refine gB ?_|refine gZ (fun x hx hu=>?_)|refine gY (fun x hx=>?_)|refine gE ?_|refine QC.mk ?_ ?_|refine gS (fun h=>?_) (fun h=>?_)|refine Spl.nt ?_|refine Spl.mk (fun h=>?_) (fun h=>?_))))
  refine again (i + 1) hin (by first | omega | (dsimp only; omega)) (ai (QG (by rw [QHv]; omega)) (ai rfl (ai rfl (ai rfl (ai (QG (by omega)) trivial))))) trivial rfl
 ·(repeat' ((conv=>whnf);first|with_reducible refine gA ?_|(with_reducible first|refine gB ?_|refine gZ (fun x hx hu=>?_)|refine gY (fun x hx=>?_)|refine gE ?_|refine QC.mk ?_ ?_|refine gS (fun h=>?_) (fun h=>?_)|refine Spl.nt ?_|refine Spl.mk (fun h=>?_) (fun h=>?_))))
  exact QG (by rw [show i = n by omega])
def YD (es : List Int) (k : Nat) : Prop := ∀ i, i < es.length → ∀ j, j < es.length → dg k j ≠ 0 → es.getD i 0 < es.getD j 0 → dg k i = 1
instance (es : List Int) (k : Nat) : Decidable (YD es k) := by unfold YD; infer_instance
def QG1 (es : List Int) (k t : Nat) (low : Int) (some : Bool) : Prop := (some = false → ∀ j < t, dg k j = 0) ∧ (some = true → (∃ j < t, dg k j ≠ 0 ∧ es.getD j 0 = low) ∧ ∀ j < t, dg k j ≠ 0 → es.getD j 0 ≤ low)
theorem QCk {es : List Int} {k t : Nat} {low : Int} {s : Bool} (h : QG1 es k t low s) (h1 : dg k t = 0 ∨ s = true ∧ es.getD t 0 ≤ low) : QG1 es k (t + 1) low s := by
 refine ⟨fun hs j hj => ?_, fun hs => ⟨?_, fun j hj hd => ?_⟩⟩
 ·rcases Nat.lt_or_ge j t with hjt | hjt
  ·exact h.1 hs j hjt
  ·rw [show j = t by omega]
   rcases h1 with h1 | h1
   ·exact h1
   ·rw [hs] at h1; cases h1.1
 ·obtain ⟨j, h2, h3⟩ := (h.2 hs).1
  exact ⟨j, by omega, h3⟩
 ·rcases Nat.lt_or_ge j t with hjt | hjt
  ·exact (h.2 hs).2 j hjt hd
  ·have : j = t := by omega
   subst this
   rcases h1 with h1 | h1
   ·exact absurd h1 hd
   ·exact h1.2
theorem QHw {es : List Int} {k t : Nat} {low : Int} {s : Bool} (h : QG1 es k t low s) (h1 : dg k t ≠ 0) (h2 : s = false ∨ low < es.getD t 0) : QG1 es k (t + 1) (es.getD t 0) true := by
 refine ⟨fun hs => (by cases hs), fun _ => ⟨⟨t, by omega, h1, rfl⟩, fun j hj hd => ?_⟩⟩
 rcases Nat.lt_or_ge j t with hjt | hjt
 ·rcases h2 with h2 | h2
  ·exact absurd (h.1 h2 j hjt) hd
  ·cases s with
   | false => exact absurd (h.1 rfl j hjt) hd
   | true => have := (h.2 rfl).2 j hjt hd; omega
 ·rw [show j = t by omega]; exact Int.le_refl _
def OkP (es : List Int) (k : Nat) (low : Int) (s : Bool) (t : Nat) : Prop := ∀ i < t, s = true → es.getD i 0 < low → dg k i = 1
theorem QMq {es : List Int} {k : Nat} {low : Int} {s : Bool} (h : QG1 es k es.length low s) : YD es k ↔ OkP es k low s es.length := by
 constructor
 ·intro ha i hi hs hlt
  obtain ⟨⟨j, hj, hd, he⟩, _⟩ := h.2 hs
  exact ha i hi j hj hd (by omega)
 ·intro ho i hi j hj hd hlt
  cases s with
  | false => exact absurd (h.1 rfl j hj) hd
  | true =>
   have := (h.2 rfl).2 j hj hd
   exact ho i hi rfl (by omega)
theorem QCJ {es : List Int} {i : Nat} {x : Int} (h : es[i]? = some x) : es.getD i 0 = x := by rw [List.getD_eq_getElem?_getD, h]; rfl
def alA (es : List Int) (c t : Nat) (low : Int) (s : Bool) : S := ⟨[(0, .d (.it .u64 (c : Nat))), (1, .d (.fs 1 (vI es))), (5, .d (.it .i64 low)), (6, .d (.bl s)), (16, .d (.fs 1 (vI es))), (17, .d (.it .i64 (es.length : Nat))), (18, .d (.it .i64 (t : Nat)))], [], 0⟩
def alB (es : List Int) (c t : Nat) (low : Int) (s : Bool) : S := ⟨[(0, .d (.it .u64 (c : Nat))), (5, .d (.it .i64 low)), (6, .d (.bl s)), (38, .d (.fs 1 (vI es))), (39, .d (.it .i64 (es.length : Nat))), (40, .d (.it .i64 (t : Nat)))], [], 0⟩
theorem QHx (es : List Int) (hn : es.length ≤ 8) (k : Nat) (hk : k < 256) : FnC Tryz.prog 106 [.d (.it .u64 (Q5 k es.length : Nat)), .d (.fs 1 (vI es))] (.d (.bl (decide (YD es k)))) := by
 have hv : (vI es).length = es.length := List.length_map ..
 have hr : FnC Tryz.prog 140 [.d (.it .u64 (Q5 k es.length : Nat)), .d (.it .i64 ((vI es).length : Nat))] (.d (.bl true)) := by rw [hv]; exact QJl k es.length hn hk
 have hL0 : QG1 es k 0 0 false := ⟨fun _ j hj => absurd hj (by omega), fun h => (by cases h)⟩
 have hle := Y7 (k := k) hn
 have hf : ∀ i, i < es.length → FnC Tryz.prog 67 [.d (.it .u64 (Q5 k es.length : Nat)), .d (.it .i64 (i : Nat))] (.d (.it .i64 (dg k i : Nat))) := fun i hi => by
  have := QHu (Q5 k es.length) i hle (by omega)
  rwa [(Ys es.length hn k hk).2.2 i hi] at this
 generalize Q5 k es.length = c at *
 refine FnC.intro QA Tryz.func106 rfl Tryz.ntmps106 Tryz.call106 rfl (bll rfl) rfl ?_
 (repeat' ((conv=>whnf);first|with_reducible refine gA ?_|((with_reducible refine QB ?_); refine CallE.con ⟨_, hr, ?_⟩)|(with_reducible first|refine gB ?_|refine gZ (fun x hx hu=>?_)|refine gY (fun x hx=>?_)|refine gE ?_|refine QC.mk ?_ ?_|refine gS (fun h=>?_) (fun h=>?_)|refine Spl.nt ?_|refine Spl.mk (fun h=>?_) (fun h=>?_))))
 refine QT QA (fun x : Nat × Int × Bool => x.1 ≤ es.length ∧ QG1 es k x.1 x.2.1 x.2.2) (fun x => alA es c x.1 x.2.1 x.2.2) (fun x => es.length - x.1) (0, 0, false) ⟨Nat.zero_le _, hL0⟩ ⟨ai rfl (ai rfl (ai rfl (ai rfl (ai rfl (ai (QG (by rw [hv])) (ai rfl trivial)))))), trivial, rfl⟩ ?_
 rintro ⟨t, low, s⟩ ⟨ht, hL⟩
 dsimp only at ht hL
 by_cases htn : t < es.length
 ·obtain ⟨x, hx⟩ := QX htn
  have hft := hf t htn
  have hgx := QCJ hx
  have hd2 := QCj k t
  unfold alA vI
  unfold vI at hv
  cases s with
  | false =>
   (repeat' ((conv=>whnf);first|with_reducible refine gA ?_|((with_reducible refine QB ?_); refine CallE.con ⟨_, hft, ?_⟩) | with_reducible refine Qe.mk ⟨_, hft, ?_⟩|(with_reducible first|refine gB ?_|refine gZ (fun x hx hu=>?_)|refine gY (fun x hx=>?_)|refine gE ?_|refine QC.mk ?_ ?_|refine gS (fun h=>?_) (fun h=>?_)|refine Spl.nt ?_|refine Spl.mk (fun h=>?_) (fun h=>?_))))
   ·refine again (t + 1, x, true) ⟨htn, hgx ▸ QHw hL (by omega) (.inl rfl)⟩ (by first | omega | (dsimp only; omega)) (ai rfl (ai rfl (ai rfl (ai rfl (ai rfl (ai rfl (ai (QG (by dsimp only; omega)) trivial))))))) trivial rfl
   ·refine again (t + 1, low, false) ⟨htn, QCk hL (.inl (by omega))⟩ (by first | omega | (dsimp only; omega)) (ai rfl (ai rfl (ai rfl (ai rfl (ai rfl (ai rfl (ai (QG (by dsimp only; omega)) trivial))))))) trivial rfl
  | true =>
   (repeat' ((conv=>whnf);first|with_reducible refine gA ?_|((with_reducible refine QB ?_); refine CallE.con ⟨_, hft, ?_⟩) | with_reducible refine Qe.mk ⟨_, hft, ?_⟩|(with_reducible first|refine gB ?_|refine gZ (fun x hx hu=>?_)|refine gY (fun x hx=>?_)|refine gE ?_|refine QC.mk ?_ ?_|refine gS (fun h=>?_) (fun h=>?_)|refine Spl.nt ?_|refine Spl.mk (fun h=>?_) (fun h=>?_))))
   ·refine again (t + 1, x, true) ⟨htn, hgx ▸ QHw hL (by omega) (.inr (by dsimp only at *; omega))⟩ (by first | omega | (dsimp only; omega)) (ai rfl (ai rfl (ai rfl (ai rfl (ai rfl (ai rfl (ai (QG (by dsimp only; omega)) trivial))))))) trivial rfl
   ·refine again (t + 1, low, true) ⟨htn, QCk hL (.inr ⟨rfl, by dsimp only at *; omega⟩)⟩ (by first | omega | (dsimp only; omega)) (ai rfl (ai rfl (ai rfl (ai rfl (ai rfl (ai rfl (ai (QG (by dsimp only; omega)) trivial))))))) trivial rfl
   ·refine again (t + 1, low, true) ⟨htn, QCk hL (.inl (by omega))⟩ (by first | omega | (dsimp only; omega)) (ai rfl (ai rfl (ai rfl (ai rfl (ai rfl (ai rfl (ai (QG (by dsimp only; omega)) trivial))))))) trivial rfl
 ·have htl : t = es.length := by omega
  subst htl
  have hA := QMq hL
  unfold alA
  (repeat' ((conv=>whnf);first|with_reducible refine gA ?_|(with_reducible first|refine gB ?_|refine gZ (fun x hx hu=>?_)|refine gY (fun x hx=>?_)|refine gE ?_|refine QC.mk ?_ ?_|refine gS (fun h=>?_) (fun h=>?_)|refine Spl.nt ?_|refine Spl.mk (fun h=>?_) (fun h=>?_))))
  refine QT QA (fun q : Nat => q ≤ es.length ∧ OkP es k low s q) (fun q => alB es c q low s) (fun q => es.length - q) 0 ⟨Nat.zero_le _, fun i hi => absurd hi (by omega)⟩ ⟨ai rfl (ai rfl (ai rfl (ai rfl (ai (QG (by rw [hv])) (ai rfl trivial))))), trivial, rfl⟩ ?_
  intro q ⟨hq, hO⟩
  by_cases hqn : q < es.length
  ·obtain ⟨x, hx⟩ := QX hqn
   have hft := hf q hqn
   have hgx := QCJ hx
   have hd2 := QCj k q
   have step : (s = true → x < low → dg k q = 1) → OkP es k low s (q + 1) := fun h i hi hs hlt => by
    rcases Nat.lt_or_ge i q with hiq | hiq
    ·exact hO i hiq hs hlt
    ·have : i = q := by omega
     subst this
     exact h hs (by omega)
   have stop : s = true → x < low → dg k q ≠ 1 → ¬ YD es k := fun hs hlt hd ha => hd ((hA.1 ha) q hqn hs (by omega))
   unfold alB vI
   unfold vI at hv
   cases s with
   | false =>
    (repeat' ((conv=>whnf);first|with_reducible refine gA ?_|((with_reducible refine QB ?_); refine CallE.con ⟨_, hft, ?_⟩) | with_reducible refine Qe.mk ⟨_, hft, ?_⟩|(with_reducible first|refine gB ?_|refine gZ (fun x hx hu=>?_)|refine gY (fun x hx=>?_)|refine gE ?_|refine QC.mk ?_ ?_|refine gS (fun h=>?_) (fun h=>?_)|refine Spl.nt ?_|refine Spl.mk (fun h=>?_) (fun h=>?_))))
    refine again (q + 1) ⟨hqn, step (fun h => by cases h)⟩ (by first | omega | (dsimp only; omega)) (ai rfl (ai rfl (ai rfl (ai rfl (ai rfl (ai (QG (by omega)) trivial)))))) trivial rfl
   | true =>
    (repeat' ((conv=>whnf);first|with_reducible refine gA ?_|((with_reducible refine QB ?_); refine CallE.con ⟨_, hft, ?_⟩) | with_reducible refine Qe.mk ⟨_, hft, ?_⟩|(with_reducible first|refine gB ?_|refine gZ (fun x hx hu=>?_)|refine gY (fun x hx=>?_)|refine gE ?_|refine QC.mk ?_ ?_|refine gS (fun h=>?_) (fun h=>?_)|refine Spl.nt ?_|refine Spl.mk (fun h=>?_) (fun h=>?_))))
    ·exact Xy (stop rfl (by omega) (by omega))
    ·refine again (q + 1) ⟨hqn, step (fun _ _ => by omega)⟩ (by first | omega | (dsimp only; omega)) (ai rfl (ai rfl (ai rfl (ai rfl (ai rfl (ai (QG (by omega)) trivial)))))) trivial rfl
    ·refine again (q + 1) ⟨hqn, step (fun _ _ => by omega)⟩ (by first | omega | (dsimp only; omega)) (ai rfl (ai rfl (ai rfl (ai rfl (ai rfl (ai (QG (by omega)) trivial)))))) trivial rfl
  ·have hql : q = es.length := by omega
   subst hql
   unfold alB
   (repeat' ((conv=>whnf);first|with_reducible refine gA ?_|(with_reducible first|refine gB ?_|refine gZ (fun x hx hu=>?_)|refine gY (fun x hx=>?_)|refine gE ?_|refine QC.mk ?_ ?_|refine gS (fun h=>?_) (fun h=>?_)|refine Spl.nt ?_|refine Spl.mk (fun h=>?_) (fun h=>?_))))
   exact QBn (hA.2 hO)
def Xl (l : List Nat) : List D := l.map fun x => D.it .i64 (x : Nat)
section
variable {R : List Nat} {n b : Nat} {ty : Ty} {off i j : Nat}
theorem QJm : (Xl R).length = R.length := List.length_map ..
theorem ldI (hb : R[n]? = some b) (ha : ty.kd.agg = false) (ho : off = 0 + n * 1) : ldA ty off ((Xl R).map AV.d) = .d (.it .i64 (b : Nat)) := by
 subst ho
 unfold ldA Xl
 rw [ha, cond_false, List.getD_eq_getElem?_getD, List.getElem?_map, List.getElem?_map, show 0 + n * 1 = n by omega, hb]; rfl
theorem QNp (h : R.length = 32) (ha : ty.kd.agg = true) (hz : ty.size = 32) : ldA ty 0 ((Xl R).map AV.d) = .dg 32 (Xl R) := by
 unfold ldA
 rw [ha, cond_true, hz, List.drop_zero, List.take_of_length_le (by simp [Xl, h])]
 unfold QFz
 rw [QAl]
theorem stI (hn : n < R.length) {z : Int} (hz : z = (b : Nat)) (hi : i = 0 + n * 1) (hj : j = i + 1) : ((Xl R).map AV.d).take i ++ [AV.d (.it .i64 z)] ++ ((Xl R).map AV.d).drop j = (Xl (R.set n b)).map AV.d := by
 subst hi hj hz
 unfold Xl
 rw [show 0 + n * 1 = n by omega, List.map_set, List.map_set, List.set_eq_take_append_cons_drop, if_pos (by simpa using hn)]; simp
end
def fI (c t : Nat) : List Nat := (List.range 32).map fun i => if i < t then c / 4 ^ i % 4 else 0
theorem QBS (c t : Nat) : (fI c t).length = 32 := by unfold fI; rw [List.length_map, List.length_range]
theorem QMr (c t : Nat) (ht : t < 32) : (fI c t).set t (c / 4 ^ t % 4) = fI c (t + 1) := by
 refine List.ext_getElem (by rw [List.length_set, QBS, QBS]) fun i h1 h2 => ?_
 rw [List.getElem_set]
 simp only [fI, List.getElem_map, List.getElem_range]
 by_cases h : t = i
 ·subst h; simp
 ·rw [if_neg h]
  by_cases hi : i < t
  ·rw [if_pos hi, if_pos (by omega)]
  ·rw [if_neg hi, if_neg (by omega)]
theorem QHy (c : Nat) {i : Nat} (hi : i < 32) : (fI c 32)[i]? = some (c / 4 ^ i % 4) := by
 unfold fI
 rw [List.getElem?_map, List.getElem?_range hi]
 simp only [Option.map_some, if_pos hi]
def z32 : List Nat := List.replicate 32 0
def ftS (c t : Nat) : S := ⟨[(0, .d (.it .u64 (c / 4 ^ t : Nat))), (2, .ptr 0 0), (3, .ptr 1 0), (4, .d (.it .i64 (t : Nat)))], [(0, .cells 32 ((Xl z32).map .d)), (1, .cells 32 ((Xl (fI c t)).map .d))], 2⟩
theorem QJn (c t : Nat) : (ftS c t).ok = true := by
 unfold ftS
 simp only [S.ok, List.all_cons, List.all_nil, Ob.lt, X8]; rfl
theorem QCl (c : Nat) (hc : c ≤ 65535) : FnC Tryz.prog 135 [.d (.it .u64 (c : Nat))] (.dg 32 (Xl (fI c 32))) := by
 refine FnC.intro QA Tryz.func135 rfl Tryz.ntmps135 Tryz.call135 rfl (bll rfl) rfl ?_
 (repeat' ((conv=>whnf);first|with_reducible refine gA ?_|(with_reducible first|refine gB ?_|refine gZ (fun x hx hu=>?_)|refine gY (fun x hx=>?_)|refine gE ?_|refine QC.mk ?_ ?_|refine gS (fun h=>?_) (fun h=>?_)|refine Spl.nt ?_|refine Spl.mk (fun h=>?_) (fun h=>?_))))
 conv => whnf
 refine QT QA (fun t : Nat => t ≤ 32) (ftS c) (fun t => 32 - t) 0 (Nat.zero_le _) ⟨ai (QG (by show ((c : Nat) : Int) = ((c / 4 ^ 0 : Nat) : Int); rw [Nat.pow_zero, Nat.div_one])) (ai rfl (ai rfl (ai rfl trivial))), ai (Zh rfl rfl) (ai (Zh rfl rfl) trivial), QJn ..⟩ ?_
 intro t ht
 by_cases h32 : t < 32
 ·have hle : c / 4 ^ t ≤ c := Nat.div_le_self ..
  have hl := QBS c t
  have hs := QMr c t h32
  have hd : c / 4 ^ (t + 1) = c / 4 ^ t / 4 := by rw [Nat.pow_succ, Nat.div_div_eq_div_mul]
  have hfold : ftS c t = ⟨[(0, .d (.it .u64 (c / 4 ^ t : Nat))), (2, .ptr 0 0), (3, .ptr 1 0), (4, .d (.it .i64 (t : Nat)))], [(0, .cells 32 ((Xl z32).map .d)), (1, .cells 32 ((Xl (fI c t)).map .d))], 2⟩ := rfl
  rw [hfold]
  generalize hq : c / 4 ^ t = q at hle hs hd ⊢
  clear hfold
  (repeat' ((conv=>whnf);first|with_reducible refine gA ?_|(with_reducible first|refine gB ?_|refine gZ (fun x hx hu=>?_)|refine gY (fun x hx=>?_)|refine gE ?_|refine QC.mk ?_ ?_|refine gS (fun h=>?_) (fun h=>?_)|refine Spl.nt ?_|refine Spl.mk (fun h=>?_) (fun h=>?_))))
  refine again (t + 1) h32 (by first | omega | (dsimp only; omega)) (ai (QG (by rw [hd]; omega)) (ai rfl (ai rfl (ai (QG (by omega)) trivial)))) (ai rfl (ai (Zh rfl ((stI (R := fI c t) (n := t) (b := q % 4) (by omega) rfl rfl rfl).trans (by rw [hs]))) trivial)) (QJn ..)
 ·have : t = 32 := by omega
  subst this
  have hl := QBS c 32
  (repeat' ((conv=>whnf);first|with_reducible refine gA ?_|((with_reducible refine QDH ?_); refine AtA.eq (QNp hl rfl rfl) ?_)|(with_reducible first|refine gB ?_|refine gZ (fun x hx hu=>?_)|refine gY (fun x hx=>?_)|refine gE ?_|refine QC.mk ?_ ?_|refine gS (fun h=>?_) (fun h=>?_)|refine Spl.nt ?_|refine Spl.mk (fun h=>?_) (fun h=>?_))))
  rfl
theorem QJo (c i : Nat) (hc : c ≤ 65535) (h : i < 32) : FnC Tryz.prog 103 [.d (.it .u64 (c : Nat)), .d (.it .i64 (i : Nat))] (.d (.it .i64 (c / 4 ^ i % 4 : Nat))) := by
 have hf := QCl c hc
 have hl : (Xl (fI c 32)).length = 32 := by rw [QJm, QBS]
 have hx : (fI c 32)[(i : Int).toNat]? = some (c / 4 ^ i % 4) := QHy c h
 refine FnC.intro QA Tryz.func103 rfl Tryz.ntmps103 Tryz.call103 rfl (bll rfl) rfl ?_
 (repeat' ((conv=>whnf);first|with_reducible refine gA ?_|((with_reducible refine QB ?_); refine CallE.con ⟨_, hf, ?_⟩) | with_reducible refine Qe.mk ⟨_, hf, ?_⟩|(with_reducible first|refine gB ?_|refine gZ (fun x hx hu=>?_)|refine gY (fun x hx=>?_)|refine gE ?_|refine QC.mk ?_ ?_|refine gS (fun h=>?_) (fun h=>?_)|refine Spl.nt ?_|refine Spl.mk (fun h=>?_) (fun h=>?_))))
 all_goals first | (exfalso; omega) | skip
 refine congrArg AV.d ?_
 show ((Xl (fI c 32)).drop (i * 1)).getD 0 _ = _
 rw [List.getD_eq_getElem?_getD, List.getElem?_drop]
 unfold Xl
 rw [List.getElem?_map, show i * 1 + 0 = i by omega, QHy c h]; rfl
theorem QHz {k n : Nat} (hn : n ≤ 8) (hk : k < 256) (i : Nat) : Q5 k n / 4 ^ i % 4 < 2 ∧ (n ≤ i → Q5 k n / 4 ^ i % 4 = 0) ∧ (i < n → Q5 k n / 4 ^ i % 4 = dg k i) := by
 have hf := (Ys n hn k hk).2.2
 have h0 : n ≤ i → Q5 k n / 4 ^ i % 4 = 0 := fun h => by
  have h1 := QCI k n
  have h2 : 4 ^ n ≤ 4 ^ i := Nat.pow_le_pow_right (by decide) h
  rw [Nat.div_eq_of_lt (by omega)]
 refine ⟨?_, h0, fun h => hf i h⟩
 rcases Nat.lt_or_ge i n with h | h
 ·rw [hf i h]; exact QCj k i
 ·rw [h0 h]; decide
def rrS (c n t : Nat) : S := ⟨[(1, .d (.it .i64 (n : Nat))), (5, .ptr 0 0), (6, .d (.it .i64 (t : Nat)))], [(0, .cells 32 ((Xl (fI c 32)).map .d))], 1⟩
theorem QJp (c n t : Nat) : (rrS c n t).ok = true := by
 unfold rrS
 simp only [S.ok, List.all_cons, List.all_nil, Ob.lt, X8]; rfl
theorem QIh (k n : Nat) (hn : n ≤ 8) (hk : k < 256) : FnC Tryz.prog 168 [.d (.it .u64 (Q5 k n : Nat)), .d (.it .i64 (n : Nat))] (.d (.bl true)) := by
 have hd := QHz (k := k) hn hk
 have hc := Y7 (k := k) hn
 generalize Q5 k n = c at *
 have hf := QCl c hc
 have hl := QBS c 32
 refine FnC.intro QA Tryz.func168 rfl Tryz.ntmps168 Tryz.call168 rfl (bll rfl) rfl ?_
 (repeat' ((conv=>whnf);first|with_reducible refine gA ?_|((with_reducible refine QB ?_); refine CallE.con ⟨_, hf, ?_⟩) | with_reducible refine Qe.mk ⟨_, hf, ?_⟩|(with_reducible first|refine gB ?_|refine gZ (fun x hx hu=>?_)|refine gY (fun x hx=>?_)|refine gE ?_|refine QC.mk ?_ ?_|refine gS (fun h=>?_) (fun h=>?_)|refine Spl.nt ?_|refine Spl.mk (fun h=>?_) (fun h=>?_))))
 all_goals first | (exfalso; omega) | skip
 conv => whnf
 refine QT QA (fun t : Nat => t ≤ 32) (rrS c n) (fun t => 32 - t) 0 (Nat.zero_le _) ⟨ai rfl (ai rfl (ai rfl trivial)), ai (Zh rfl rfl) trivial, QJp ..⟩ ?_
 intro t ht
 by_cases h32 : t < 32
 ·have hx := QHy c h32
  obtain ⟨d1, d2, _⟩ := hd t
  generalize c / 4 ^ t % 4 = q at *
  (repeat' ((conv=>whnf);first|with_reducible refine gA ?_|((with_reducible refine QDH ?_); refine AtA.eq (ldI hx rfl rfl) ?_)|(with_reducible first|refine gB ?_|refine gZ (fun x hx hu=>?_)|refine gY (fun x hx=>?_)|refine gE ?_|refine QC.mk ?_ ?_|refine gS (fun h=>?_) (fun h=>?_)|refine Spl.nt ?_|refine Spl.mk (fun h=>?_) (fun h=>?_))))
  all_goals first | (exfalso; omega) | (refine again (t + 1) h32 (by first | omega | (dsimp only; omega)) (ai rfl (ai rfl (ai (QG (by omega)) trivial))) (ai rfl trivial) (QJp ..))
 ·(repeat' ((conv=>whnf);first|with_reducible refine gA ?_|(with_reducible first|refine gB ?_|refine gZ (fun x hx hu=>?_)|refine gY (fun x hx=>?_)|refine gE ?_|refine QC.mk ?_ ?_|refine gS (fun h=>?_) (fun h=>?_)|refine Spl.nt ?_|refine Spl.mk (fun h=>?_) (fun h=>?_))))
  rfl
def ofL : List Nat → Nat
 | [] => 0
 | x :: t => 4 * ofL t + x
theorem QJq (l : List Nat) (i : Nat) : ofL (l.drop i) ≤ ofL l := by
 induction l generalizing i with
 | nil => simp
 | cons x t ih =>
  cases i with
  | zero => exact Nat.le_refl _
  | succ i =>
   have := ih i
   show ofL (t.drop i) ≤ 4 * ofL t + x
   omega
def ofS (l : List Nat) (t : Nat) : S := ⟨[(1, .ptr 0 0), (3, .d (.it .u64 (ofL (l.drop t) : Nat))), (4, .d (.it .i64 ((t : Nat) - 1)))], [(0, .cells 32 ((Xl l).map .d))], 1⟩
theorem QJr (l : List Nat) (t : Nat) : (ofS l t).ok = true := by
 unfold ofS
 simp only [S.ok, List.all_cons, List.all_nil, Ob.lt, X8]; rfl
theorem QNq (l : List Nat) (hl : l.length = 32) (hb : ofL l ≤ 65535) : FnC Tryz.prog 132 [.dg 32 (Xl l)] (.d (.it .u64 (ofL l : Nat))) := by
 refine FnC.intro QA Tryz.func132 rfl Tryz.ntmps132 Tryz.call132 rfl (bll rfl) rfl ?_
 (repeat' ((conv=>whnf);first|with_reducible refine gA ?_|(with_reducible first|refine gB ?_|refine gZ (fun x hx hu=>?_)|refine gY (fun x hx=>?_)|refine gE ?_|refine QC.mk ?_ ?_|refine gS (fun h=>?_) (fun h=>?_)|refine Spl.nt ?_|refine Spl.mk (fun h=>?_) (fun h=>?_))))
 conv => whnf
 refine QT QA (fun t : Nat => t ≤ 32) (ofS l) (fun t => t) 32 (Nat.le_refl _) ⟨ai rfl (ai (QG (by rw [List.drop_of_length_le (by omega)]; rfl)) (ai rfl trivial)), ai (Zh rfl rfl) trivial, QJr ..⟩ ?_
 intro t ht
 cases t with
 | zero =>
  (repeat' ((conv=>whnf);first|with_reducible refine gA ?_|(with_reducible first|refine gB ?_|refine gZ (fun x hx hu=>?_)|refine gY (fun x hx=>?_)|refine gE ?_|refine QC.mk ?_ ?_|refine gS (fun h=>?_) (fun h=>?_)|refine Spl.nt ?_|refine Spl.mk (fun h=>?_) (fun h=>?_))))
  rfl
 | succ t =>
  obtain ⟨x, hx⟩ := QX (show t < l.length by omega)
  have hx' : l[(((t + 1 : Nat) : Int) - 1).toNat]? = some x := by rw [show (((t + 1 : Nat) : Int) - 1).toNat = t by omega]; exact hx
  have h1 : ofL (l.drop t) = 4 * ofL (l.drop (t + 1)) + x := by rw [List.drop_eq_getElem_cons (by omega), (List.getElem?_eq_some_iff.1 hx).2]; rfl
  have h2 := QJq l t
  have hfold : ofS l (t + 1) = ⟨[(1, .ptr 0 0), (3, .d (.it .u64 (ofL (l.drop (t + 1)) : Nat))), (4, .d (.it .i64 (((t + 1 : Nat) : Int) - 1)))], [(0, .cells 32 ((Xl l).map .d))], 1⟩ := rfl
  rw [hfold]
  clear hfold
  generalize ofL (l.drop (t + 1)) = u at h1 ⊢
  (repeat' ((conv=>whnf);first|with_reducible refine gA ?_|((with_reducible refine QDH ?_); refine AtA.eq (ldI hx' rfl rfl) ?_)|(with_reducible first|refine gB ?_|refine gZ (fun x hx hu=>?_)|refine gY (fun x hx=>?_)|refine gE ?_|refine QC.mk ?_ ?_|refine gS (fun h=>?_) (fun h=>?_)|refine Spl.nt ?_|refine Spl.mk (fun h=>?_) (fun h=>?_))))
  refine again t (by omega) (by dsimp only; omega) (ai rfl (ai (QG (by rw [h1]; omega)) (ai (QG (by omega)) trivial))) (ai rfl trivial) (QJr ..)
def gI (k t : Nat) : List Nat := (List.range 32).map fun i => if i < t then dg k i else 0
theorem QEY (k t : Nat) : (gI k t).length = 32 := by unfold gI; rw [List.length_map, List.length_range]
theorem QMs (k t : Nat) : (gI k t).set t (dg k t) = gI k (t + 1) := by
 refine List.ext_getElem (by rw [List.length_set, QEY, QEY]) fun i h1 h2 => ?_
 rw [List.getElem_set]
 simp only [gI, List.getElem_map, List.getElem_range]
 by_cases h : t = i
 ·subst h; simp
 ·rw [if_neg h]
  by_cases hi : i < t
  ·rw [if_pos hi, if_pos (by omega)]
  ·rw [if_neg hi, if_neg (by omega)]
theorem QNr : ∀ n ≤ 8, ∀ k < 256, ofL (gI k n) = Q5 k n := by decide +kernel
def rnS (k n t : Nat) : S := ⟨[(0, .d (.it .u64 (kd k t : Nat))), (1, .d (.it .i64 (n : Nat))), (2, .d (.bl false)), (7, .ptr 0 0), (8, .d (.it .i64 (t : Nat)))], [(0, .cells 32 ((Xl (gI k t)).map .d))], 1⟩
theorem QJs (k n t : Nat) : (rnS k n t).ok = true := by
 unfold rnS
 simp only [S.ok, List.all_cons, List.all_nil, Ob.lt, X8]; rfl
theorem QLU (k n : Nat) (hn : n ≤ 8) (hk : k < cpw n) : FnC Tryz.prog 101 [.d (.it .u64 (k : Nat)), .d (.it .i64 (n : Nat)), .d (.bl false)] (.d (.it .u64 (Q5 k n : Nat))) := by
 have hb := QFh
 have hct := QDp n hn
 have hpn := YC hn
 have he := QNr n hn k (by omega)
 have ho := QNq (gI k n) (QEY k n) (by rw [he]; exact Y7 hn)
 rw [he] at ho
 refine FnC.intro QA Tryz.func101 rfl Tryz.ntmps101 Tryz.call101 rfl (bll rfl) rfl ?_
 (repeat' ((conv=>whnf);first|with_reducible refine gA ?_|((with_reducible refine QB ?_); first | refine CallE.con ⟨_, hct, ?_⟩ | refine CallE.con ⟨_, hb, ?_⟩)|(with_reducible first|refine gB ?_|refine gZ (fun x hx hu=>?_)|refine gY (fun x hx=>?_)|refine gE ?_|refine QC.mk ?_ ?_|refine gS (fun h=>?_) (fun h=>?_)|refine Spl.nt ?_|refine Spl.mk (fun h=>?_) (fun h=>?_))))
 all_goals first | (exfalso; omega) | skip
 conv => whnf
 refine QT QA (fun i : Nat => i ≤ n) (rnS k n) (fun i => n - i) 0 (Nat.zero_le _) ⟨ai (QG (by show ((k : Nat) : Int) = ((k / 2 ^ 0 : Nat) : Int); rw [Nat.pow_zero, Nat.div_one])) (ai rfl (ai rfl (ai rfl (ai rfl trivial)))), ai (Zh rfl rfl) trivial, QJs ..⟩ ?_
 intro i hi
 have hl := QEY k i
 by_cases hin : i < n
 ·have hs := QMs k i
  have hkd := QMQ k i
  have hks := QHv k i
  have hdg := QMR k i
  rw [← hdg] at hs
  have hfold : rnS k n i = ⟨[(0, .d (.it .u64 (kd k i : Nat))), (1, .d (.it .i64 (n : Nat))), (2, .d (.bl false)), (7, .ptr 0 0), (8, .d (.it .i64 (i : Nat)))], [(0, .cells 32 ((Xl (gI k i)).map .d))], 1⟩ := rfl
  rw [hfold]
  clear hfold
  generalize kd k i = q at *
  (repeat' ((conv=>whnf);first|with_reducible refine gA ?_|((with_reducible refine QB ?_); refine CallE.con ⟨_, hb, ?_⟩) | with_reducible refine Qe.mk ⟨_, hb, ?_⟩|(with_reducible first|refine gB ?_|refine gZ (fun x hx hu=>?_)|refine gY (fun x hx=>?_)|refine gE ?_|refine QC.mk ?_ ?_|refine gS (fun h=>?_) (fun h=>?_)|refine Spl.nt ?_|refine Spl.mk (fun h=>?_) (fun h=>?_))))
  refine again (i + 1) hin (by first | omega | (dsimp only; omega)) (ai (QG (by rw [hks]; omega)) (ai rfl (ai rfl (ai rfl (ai (QG (by omega)) trivial))))) (ai (Zh rfl ((stI (R := gI k i) (n := i) (b := q % 2) (by omega) rfl rfl rfl).trans (by rw [hs]))) trivial) (QJs ..)
 ·have hie : i = n := by omega
  subst hie
  (repeat' ((conv=>whnf);first|with_reducible refine gA ?_|((with_reducible refine QDH ?_); refine AtA.eq (QNp hl rfl rfl) ?_) | ((with_reducible refine QB ?_); refine CallE.con ⟨_, ho, ?_⟩) | with_reducible refine Qe.mk ⟨_, ho, ?_⟩|(with_reducible first|refine gB ?_|refine gZ (fun x hx hu=>?_)|refine gY (fun x hx=>?_)|refine gE ?_|refine QC.mk ?_ ?_|refine gS (fun h=>?_) (fun h=>?_)|refine Spl.nt ?_|refine Spl.mk (fun h=>?_) (fun h=>?_))))
  rfl
def AlR (es : List Int) (k i t : Nat) : Prop := ∀ j < t, dg k j ≠ 0 → es.getD i 0 < es.getD j 0 → dg k i = 1
def raS (es : List Int) (c i : Nat) : S := ⟨[(1, .d (.fs 1 (vI es))), (5, .ptr 0 0), (6, .d (.it .i64 (i : Nat)))], [(0, .cells 32 ((Xl (fI c 32)).map .d))], 1⟩
def raT (es : List Int) (c i t : Nat) : S := ⟨[(1, .d (.fs 1 (vI es))), (5, .ptr 0 0), (6, .d (.it .i64 (i : Nat))), (7, .d (.it .i64 (t : Nat)))], [(0, .cells 32 ((Xl (fI c 32)).map .d))], 1⟩
theorem QJt (es : List Int) (c i : Nat) : (raS es c i).ok = true := by
 unfold raS
 simp only [S.ok, List.all_cons, List.all_nil, Ob.lt, X8]; rfl
theorem QJu (es : List Int) (c i t : Nat) : (raT es c i t).ok = true := by
 unfold raT
 simp only [S.ok, List.all_cons, List.all_nil, Ob.lt, X8]; rfl
theorem QLV (es : List Int) (hn : es.length ≤ 8) (k : Nat) (hk : k < 256) : FnC Tryz.prog 133 [.d (.it .u64 (Q5 k es.length : Nat)), .d (.fs 1 (vI es))] (.d (.bl (decide (YD es k)))) := by
 have hv : (vI es).length = es.length := List.length_map ..
 have hr : FnC Tryz.prog 168 [.d (.it .u64 (Q5 k es.length : Nat)), .d (.it .i64 ((vI es).length : Nat))] (.d (.bl true)) := by rw [hv]; exact QIh k es.length hn hk
 have hle := Y7 (k := k) hn
 have hdd := QHz (k := k) hn hk
 generalize Q5 k es.length = c at *
 have hf := QCl c hle
 have hat : ∀ i, i < es.length → (fI c 32)[i]? = some (dg k i) := fun i hi => by rw [QHy c (by omega), (hdd i).2.2 hi]
 refine FnC.intro QA Tryz.func133 rfl Tryz.ntmps133 Tryz.call133 rfl (bll rfl) rfl ?_
 (repeat' ((conv=>whnf);first|with_reducible refine gA ?_|((with_reducible refine QB ?_); first | refine CallE.con ⟨_, hr, ?_⟩ | refine CallE.con ⟨_, hf, ?_⟩) | with_reducible refine Qe.mk ⟨_, hf, ?_⟩|(with_reducible first|refine gB ?_|refine gZ (fun x hx hu=>?_)|refine gY (fun x hx=>?_)|refine gE ?_|refine QC.mk ?_ ?_|refine gS (fun h=>?_) (fun h=>?_)|refine Spl.nt ?_|refine Spl.mk (fun h=>?_) (fun h=>?_))))
 conv => whnf
 refine QT QA (fun i : Nat => i ≤ es.length ∧ ∀ q < i, AlR es k q es.length) (raS es c) (fun i => es.length - i) 0 ⟨Nat.zero_le _, fun q hq => absurd hq (by omega)⟩ ⟨ai rfl (ai rfl (ai rfl trivial)), ai (Zh rfl rfl) trivial, QJt ..⟩ ?_
 intro i ⟨hi, hA⟩
 by_cases hin : i < es.length
 ·have hv' : ((es.map fun z => [D.it .i64 z])).length = es.length := List.length_map ..
  obtain ⟨x, hx⟩ := QX hin
  have hgx := QCJ hx
  have hax := hat i hin
  unfold raS
  (repeat' ((conv=>whnf);first|with_reducible refine gA ?_|(with_reducible first|refine gB ?_|refine gZ (fun x hx hu=>?_)|refine gY (fun x hx=>?_)|refine gE ?_|refine QC.mk ?_ ?_|refine gS (fun h=>?_) (fun h=>?_)|refine Spl.nt ?_|refine Spl.mk (fun h=>?_) (fun h=>?_))))
  conv => whnf
  refine QT QA (fun t : Nat => t ≤ es.length ∧ AlR es k i t) (raT es c i) (fun t => es.length - t) 0 ⟨Nat.zero_le _, fun q hq => absurd hq (by omega)⟩ ⟨ai rfl (ai rfl (ai rfl (ai rfl trivial))), ai rfl trivial, QJu ..⟩ ?_
  intro t ⟨ht, hB⟩
  by_cases htn : t < es.length
  ·obtain ⟨y, hy⟩ := QX htn
   have hgy := QCJ hy
   have hay := hat t htn
   have step : (dg k t ≠ 0 → x < y → dg k i = 1) → AlR es k i (t + 1) := fun h j hj hd hlt => by
    rcases Nat.lt_or_ge j t with hjt | hjt
    ·exact hB j hjt hd hlt
    ·have : j = t := by omega
     subst this
     exact h hd (by omega)
   have stop : dg k t ≠ 0 → x < y → dg k i ≠ 1 → ¬ YD es k := fun hd hlt hne ha => hne (ha i hin t htn hd (by omega))
   unfold raT vI
   unfold vI at hv
   generalize dg k t = dt at hay step stop
   generalize dg k i = di at hax step stop
   (repeat' ((conv=>whnf);first|with_reducible refine gA ?_|((with_reducible refine QDH ?_); first | refine AtA.eq (ldI hay rfl rfl) ?_ | refine AtA.eq (ldI hax rfl rfl) ?_)|(with_reducible first|refine gB ?_|refine gZ (fun x hx hu=>?_)|refine gY (fun x hx=>?_)|refine gE ?_|refine QC.mk ?_ ?_|refine gS (fun h=>?_) (fun h=>?_)|refine Spl.nt ?_|refine Spl.mk (fun h=>?_) (fun h=>?_))))
   all_goals first
    | exact Xy (stop (by omega) (by omega) (by omega))
    | (refine again (t + 1) ⟨htn, step (fun _ _ => by omega)⟩ (by first | omega | (dsimp only; omega)) (ai rfl (ai rfl (ai rfl (ai (QG (by omega)) trivial)))) (ai rfl trivial) (QJu ..))
  ·have htl : t = es.length := by omega
   subst htl
   (repeat' ((conv=>whnf);first|with_reducible refine gA ?_|(with_reducible first|refine gB ?_|refine gZ (fun x hx hu=>?_)|refine gY (fun x hx=>?_)|refine gE ?_|refine QC.mk ?_ ?_|refine gS (fun h=>?_) (fun h=>?_)|refine Spl.nt ?_|refine Spl.mk (fun h=>?_) (fun h=>?_))))
   refine again (i + 1) ⟨hin, fun q hq => ?_⟩ (by first | omega | (dsimp only; omega)) (ai rfl (ai rfl (ai (QG (by omega)) trivial))) (ai rfl trivial) (QJt ..)
   rcases Nat.lt_or_ge q i with hqi | hqi
   ·exact hA q hqi
   ·rw [show q = i by omega]; exact hB
 ·have hil : i = es.length := by omega
  subst hil
  (repeat' ((conv=>whnf);first|with_reducible refine gA ?_|(with_reducible first|refine gB ?_|refine gZ (fun x hx hu=>?_)|refine gY (fun x hx=>?_)|refine gE ?_|refine QC.mk ?_ ?_|refine gS (fun h=>?_) (fun h=>?_)|refine Spl.nt ?_|refine Spl.mk (fun h=>?_) (fun h=>?_))))
  exact QBn fun i hi j hj hd hlt => hA i hi j hj hd hlt
def esW (ws : List Wr) : List Int := ws.map (·.e)
theorem Jo (ws : List Wr) : (esW ws).length = ws.length := List.length_map ..
theorem QFi {ws : List Wr} {i : Nat} {x : Wr} (hx : ws[i]? = some x) : vI (esW (ws.take (i + 1))) = vI (esW (ws.take i)) ++ [[.it .i64 x.e]] := by
 rw [Qb hx]
 unfold esW vI
 rw [List.map_append, List.map_append]; rfl
def Qh (m : List (List UInt8)) (ws : List Wr) : List D := [.fs 32 (m.map QO), .fs 36 (ws.map Zi)]
def epA (ws : List Wr) (i : Nat) : S := ⟨[(3, .ts 1 (vI (esW (ws.take i))) 2), (7, .d (.fs 36 (ws.map Zi))), (8, .d (.it .i64 (ws.length : Nat))), (9, .d (.it .i64 (i : Nat)))], [(2, .tail 3 true)], 3⟩
theorem QH0 (m : List (List UInt8)) (ws : List Wr) (hw : Xj ws) (hwl : ws.length ≤ 1000) : FnC Tryz.prog 69 [.dg 2 (Qh m ws)] (.d (.fs 1 (vI (esW ws)))) := by
 have hwl' : (ws.map Zi).length = ws.length := List.length_map ..
 refine FnC.intro QA Tryz.func69 rfl Tryz.ntmps69 Tryz.call69 rfl (bll rfl) rfl ?_
 (repeat' ((conv=>whnf);first|with_reducible refine gA ?_|(with_reducible first|refine gB ?_|refine gZ (fun x hx hu=>?_)|refine gY (fun x hx=>?_)|refine gE ?_|refine QC.mk ?_ ?_|refine gS (fun h=>?_) (fun h=>?_)|refine Spl.nt ?_|refine Spl.mk (fun h=>?_) (fun h=>?_))))
 conv => whnf
 refine QT QA (fun i : Nat => i ≤ ws.length) (epA ws) (fun i => ws.length - i) 0 (Nat.zero_le _) ⟨ai rfl (ai rfl (ai (QG (by rw [hwl'])) (ai rfl trivial))), ai rfl trivial, rfl⟩ ?_
 intro i hi
 have hel : (vI (esW (ws.take i))).length ≤ 1000 := by
  show (List.map _ (List.map _ _)).length ≤ _
  rw [List.length_map, List.length_map, List.length_take]; omega
 rcases Nat.lt_or_ge i ws.length with hil | hil
 ·obtain ⟨x, hx⟩ := QX hil
  have hxs := hw x (List.mem_of_getElem? hx)
  have hsn := QFi hx
  obtain ⟨xa, xs, xk, xi, xe⟩ := x
  obtain ⟨g, rfl⟩ := QGy hxs
  (repeat' ((conv=>whnf);first|with_reducible refine gA ?_|with_reducible refine QAI hx ?_ | with_reducible refine AtA.mk' ?_|(with_reducible first|refine gB ?_|refine gZ (fun x hx hu=>?_)|refine gY (fun x hx=>?_)|refine gE ?_|refine QC.mk ?_ ?_|refine gS (fun h=>?_) (fun h=>?_)|refine Spl.nt ?_|refine Spl.mk (fun h=>?_) (fun h=>?_))))
  refine again (i + 1) hil (by first | omega | (dsimp only; omega)) (ai (QIN hsn.symm) (ai rfl (ai rfl (ai (QG (by omega)) trivial)))) (ai rfl trivial) rfl
 ·have hie : i = ws.length := by omega
  (repeat' ((conv=>whnf);first|with_reducible refine gA ?_|(with_reducible first|refine gB ?_|refine gZ (fun x hx hu=>?_)|refine gY (fun x hx=>?_)|refine gE ?_|refine QC.mk ?_ ?_|refine gS (fun h=>?_) (fun h=>?_)|refine Spl.nt ?_|refine Spl.mk (fun h=>?_) (fun h=>?_))))
  refine QIO ?_
  rw [hie, List.take_length]
def epB (m : List (List UInt8)) (ws : List Wr) (i : Nat) : S := ⟨[(1, .ptr 0 0), (3, .ts 1 (vI (esW (ws.take i))) 2), (4, .d (.it .i64 (i : Nat)))], [(0, .cells 2 ((Qh m ws).map .d)), (2, .tail 3 true)], 3⟩
theorem QLW (m : List (List UInt8)) (ws : List Wr) (hw : Xj ws) (hwl : ws.length ≤ 1000) : FnC Tryz.prog 134 [.dg 2 (Qh m ws)] (.d (.fs 1 (vI (esW ws)))) := by
 have hwl' : (ws.map Zi).length = ws.length := List.length_map ..
 refine FnC.intro QA Tryz.func134 rfl Tryz.ntmps134 Tryz.call134 rfl (bll rfl) rfl ?_
 (repeat' ((conv=>whnf);first|with_reducible refine gA ?_|(with_reducible first|refine gB ?_|refine gZ (fun x hx hu=>?_)|refine gY (fun x hx=>?_)|refine gE ?_|refine QC.mk ?_ ?_|refine gS (fun h=>?_) (fun h=>?_)|refine Spl.nt ?_|refine Spl.mk (fun h=>?_) (fun h=>?_))))
 conv => whnf
 refine QT QA (fun i : Nat => i ≤ ws.length) (epB m ws) (fun i => ws.length - i) 0 (Nat.zero_le _) ⟨ai rfl (ai rfl (ai rfl trivial)), ai rfl (ai rfl trivial), rfl⟩ ?_
 intro i hi
 have hel : (vI (esW (ws.take i))).length ≤ 1000 := by
  show (List.map _ (List.map _ _)).length ≤ _
  rw [List.length_map, List.length_map, List.length_take]; omega
 rcases Nat.lt_or_ge i ws.length with hil | hil
 ·obtain ⟨x, hx⟩ := QX hil
  have hxs := hw x (List.mem_of_getElem? hx)
  have hsn := QFi hx
  obtain ⟨xa, xs, xk, xi, xe⟩ := x
  obtain ⟨g, rfl⟩ := QGy hxs
  unfold epB Qh
  (repeat' ((conv=>whnf);first|with_reducible refine gA ?_|with_reducible refine QAI hx ?_ | with_reducible refine AtA.mk' ?_|(with_reducible first|refine gB ?_|refine gZ (fun x hx hu=>?_)|refine gY (fun x hx=>?_)|refine gE ?_|refine QC.mk ?_ ?_|refine gS (fun h=>?_) (fun h=>?_)|refine Spl.nt ?_|refine Spl.mk (fun h=>?_) (fun h=>?_))))
  refine again (i + 1) hil (by first | omega | (dsimp only; omega)) (ai rfl (ai (QIN hsn.symm) (ai (QG (by omega)) trivial))) (ai rfl (ai rfl trivial)) rfl
 ·have hie : i = ws.length := by omega
  unfold epB Qh
  (repeat' ((conv=>whnf);first|with_reducible refine gA ?_|(with_reducible first|refine gB ?_|refine gZ (fun x hx hu=>?_)|refine gY (fun x hx=>?_)|refine gE ?_|refine QC.mk ?_ ?_|refine gS (fun h=>?_) (fun h=>?_)|refine Spl.nt ?_|refine Spl.mk (fun h=>?_) (fun h=>?_))))
  refine QIO ?_
  rw [hie, List.take_length]
theorem QCm (m : List (List UInt8)) (ws : List Wr) (hw : Xj ws) (hwl : ws.length ≤ 8) (k : Nat) (hk : k < 256) : FnC Tryz.prog 64 [.dg 2 (Qh m ws), .d (.it .u64 (Q5 k ws.length : Nat))] (.d (.bl (decide (YD (esW ws) k)))) := by
 have h1 := QH0 m ws hw (by omega)
 have h2 := QHx (esW ws) (by rw [Jo]; exact hwl) k hk
 rw [Jo] at h2
 refine FnC.intro QA Tryz.func64 rfl Tryz.ntmps64 Tryz.call64 rfl (bll rfl) rfl ?_
 (repeat' ((conv=>whnf);first|with_reducible refine gA ?_|((with_reducible refine QB ?_); first | refine CallE.con ⟨_, h1, ?_⟩ | refine CallE.con ⟨_, h2, ?_⟩)|(with_reducible first|refine gB ?_|refine gZ (fun x hx hu=>?_)|refine gY (fun x hx=>?_)|refine gE ?_|refine QC.mk ?_ ?_|refine gS (fun h=>?_) (fun h=>?_)|refine Spl.nt ?_|refine Spl.mk (fun h=>?_) (fun h=>?_))))
 rfl
theorem QFj (m : List (List UInt8)) (ws : List Wr) (hw : Xj ws) (hwl : ws.length ≤ 8) (k : Nat) (hk : k < 256) : FnC Tryz.prog 102 [.dg 2 (Qh m ws), .d (.it .u64 (Q5 k ws.length : Nat))] (.d (.bl (decide (YD (esW ws) k)))) := by
 have h1 := QLW m ws hw (by omega)
 have h2 := QLV (esW ws) (by rw [Jo]; exact hwl) k hk
 rw [Jo] at h2
 refine FnC.intro QA Tryz.func102 rfl Tryz.ntmps102 Tryz.call102 rfl (bll rfl) rfl ?_
 (repeat' ((conv=>whnf);first|with_reducible refine gA ?_|((with_reducible refine QB ?_); first | refine CallE.con ⟨_, h1, ?_⟩ | refine CallE.con ⟨_, h2, ?_⟩)|(with_reducible first|refine gB ?_|refine gZ (fun x hx hu=>?_)|refine gY (fun x hx=>?_)|refine gE ?_|refine QC.mk ?_ ?_|refine gS (fun h=>?_) (fun h=>?_)|refine Spl.nt ?_|refine Spl.mk (fun h=>?_) (fun h=>?_))))
 rfl
def Zv (ws : List Wr) (t : Nat) : List Nat := (List.range t).filter fun k => decide (YD (esW ws) k)
def vU (l : List Nat) : List (List D) := l.map fun z => [.it .u64 (z : Nat)]
def XO (ws : List Wr) (t : Nat) : List (List D) := vU ((Zv ws t).map fun k => Q5 k ws.length)
theorem QDq (ws : List Wr) (t : Nat) : Zv ws (t + 1) = if YD (esW ws) t then Zv ws t ++ [t] else Zv ws t := by
 unfold Zv
 rw [List.range_succ, List.filter_append]
 by_cases h : YD (esW ws) t
 ·rw [if_pos h]; simp [h]
 ·rw [if_neg h]; simp [h]
theorem QAv (ws : List Wr) (t : Nat) : (Zv ws t).length ≤ t := by
 unfold Zv
 exact Nat.le_trans (List.length_filter_le _ _) (by rw [List.length_range]; exact Nat.le_refl _)
theorem QFk (ws : List Wr) (t : Nat) : (XO ws t).length ≤ t := by
 unfold XO vU
 rw [List.length_map, List.length_map]; exact QAv ws t
theorem QFl {ws : List Wr} {t : Nat} (h : YD (esW ws) t) : XO ws (t + 1) = XO ws t ++ [[.it .u64 (Q5 t ws.length : Nat)]] := by
 unfold XO vU
 rw [QDq, if_pos h, List.map_append, List.map_append]; rfl
theorem QH1 {ws : List Wr} {t : Nat} (h : ¬ YD (esW ws) t) : XO ws (t + 1) = XO ws t := by
 unfold XO
 rw [QDq, if_neg h]
def raA (m : List (List UInt8)) (ws : List Wr) (t : Nat) : S := ⟨[(1, .d (.bl false)), (2, .d (.it .i64 1048576)), (3, .ptr 0 0), (8, .d (.it .i64 (ws.length : Nat))), (9, .ts 1 (XO ws t) 2), (10, .d (.it .u64 (t : Nat)))], [(0, .cells 2 ((Qh m ws).map .d)), (2, .tail 68 true)], 3⟩
theorem QLX (m : List (List UInt8)) (ws : List Wr) (hw : Xj ws) (hwl : ws.length ≤ 8) : FnC Tryz.prog 58 [.dg 2 (Qh m ws), .d (.bl false), .d (.it .i64 1048576)] (.tup [.d (.fs 1 (XO ws (cpw ws.length))), .d (.bl true)]) := by
 have hwl' : (ws.map Zi).length = ws.length := List.length_map ..
 have hct := QDp ws.length hwl
 have hpn := YC hwl
 refine FnC.intro QA Tryz.func58 rfl Tryz.ntmps58 Tryz.call58 rfl (bll rfl) rfl ?_
 (repeat' ((conv=>whnf);first|with_reducible refine gA ?_|(with_reducible first|refine gB ?_|refine gZ (fun x hx hu=>?_)|refine gY (fun x hx=>?_)|refine gE ?_|refine QC.mk ?_ ?_|refine gS (fun h=>?_) (fun h=>?_)|refine Spl.nt ?_|refine Spl.mk (fun h=>?_) (fun h=>?_))))
 all_goals first | (exfalso; omega) | skip
 conv => whnf
 refine QT QA (fun t : Nat => t ≤ cpw ws.length) (raA m ws) (fun t => cpw ws.length - t) 0 (Nat.zero_le _) ⟨ai rfl (ai rfl (ai rfl (ai (QG (by rw [hwl'])) (ai rfl (ai rfl trivial))))), ai rfl (ai rfl trivial), rfl⟩ ?_
 intro t ht
 have hln := QFk ws t
 by_cases htn : t < cpw ws.length
 ·have hnt := QLU t ws.length hwl htn
  have hal := QFj m ws hw hwl t (by omega)
  unfold raA
  by_cases hA : YD (esW ws) t
  ·rw [decide_eq_true hA] at hal
   have hy := QFl hA
   (repeat' ((conv=>whnf);first|with_reducible refine gA ?_|((with_reducible refine QB ?_); first | refine CallE.con ⟨_, hct, ?_⟩ | refine CallE.con ⟨_, hnt, ?_⟩ | refine CallE.con ⟨_, hal, ?_⟩) | ((with_reducible refine Y6 ?_); refine Qc.as (Zp (by omega)) ?_)|(with_reducible first|refine gB ?_|refine gZ (fun x hx hu=>?_)|refine gY (fun x hx=>?_)|refine gE ?_|refine QC.mk ?_ ?_|refine gS (fun h=>?_) (fun h=>?_)|refine Spl.nt ?_|refine Spl.mk (fun h=>?_) (fun h=>?_))))
   all_goals first | (exfalso; omega) | skip
   refine again (t + 1) htn (by first | omega | (dsimp only; omega)) (ai rfl (ai rfl (ai rfl (ai rfl (ai (QIN hy.symm) (ai (QG (by omega)) trivial)))))) (ai rfl (ai rfl trivial)) rfl
  ·rw [decide_eq_false hA] at hal
   have hy := QH1 hA
   (repeat' ((conv=>whnf);first|with_reducible refine gA ?_|((with_reducible refine QB ?_); first | refine CallE.con ⟨_, hct, ?_⟩ | refine CallE.con ⟨_, hnt, ?_⟩ | refine CallE.con ⟨_, hal, ?_⟩) | ((with_reducible refine Y6 ?_); refine Qc.as (Zp (by omega)) ?_)|(with_reducible first|refine gB ?_|refine gZ (fun x hx hu=>?_)|refine gY (fun x hx=>?_)|refine gE ?_|refine QC.mk ?_ ?_|refine gS (fun h=>?_) (fun h=>?_)|refine Spl.nt ?_|refine Spl.mk (fun h=>?_) (fun h=>?_))))
   all_goals first | (exfalso; omega) | skip
   refine again (t + 1) htn (by first | omega | (dsimp only; omega)) (ai rfl (ai rfl (ai rfl (ai rfl (ai (QIN hy.symm) (ai (QG (by omega)) trivial)))))) (ai rfl (ai rfl trivial)) rfl
 ·have hte : t = cpw ws.length := by omega
  subst hte
  unfold raA
  (repeat' ((conv=>whnf);first|with_reducible refine gA ?_|((with_reducible refine QB ?_); refine CallE.con ⟨_, hct, ?_⟩)|(with_reducible first|refine gB ?_|refine gZ (fun x hx hu=>?_)|refine gY (fun x hx=>?_)|refine gE ?_|refine QC.mk ?_ ?_|refine gS (fun h=>?_) (fun h=>?_)|refine Spl.nt ?_|refine Spl.mk (fun h=>?_) (fun h=>?_))))
  all_goals first | (exfalso; omega) | rfl
theorem QLY (m : List (List UInt8)) (ws : List Wr) (hwl : ¬ ws.length ≤ 8) : FnC Tryz.prog 58 [.dg 2 (Qh m ws), .d (.bl false), .d (.it .i64 1048576)] (.tup [.d (.fs 1 []), .d (.bl false)]) := by
 have hwl' : (ws.map Zi).length = ws.length := List.length_map ..
 refine FnC.intro QA Tryz.func58 rfl Tryz.ntmps58 Tryz.call58 rfl (bll rfl) rfl ?_
 (repeat' ((conv=>whnf);first|with_reducible refine gA ?_|(with_reducible first|refine gB ?_|refine gZ (fun x hx hu=>?_)|refine gY (fun x hx=>?_)|refine gE ?_|refine QC.mk ?_ ?_|refine gS (fun h=>?_) (fun h=>?_)|refine Spl.nt ?_|refine Spl.mk (fun h=>?_) (fun h=>?_))))
 all_goals first | (exfalso; omega) | rfl
theorem QLZ (m : List (List UInt8)) (ws : List Wr) (hwl : ¬ ws.length ≤ 8) : FnC Tryz.prog 53 [.dg 2 (Qh m ws), .d (.bl false), .d (.it .i64 65536)] (.tup [.d (.fs 0 []), .d (.bl false)]) := by
 have hwl' : (ws.map Zi).length = ws.length := List.length_map ..
 refine FnC.intro QA Tryz.func53 rfl Tryz.ntmps53 Tryz.call53 rfl (bll rfl) rfl ?_
 (repeat' ((conv=>whnf);first|with_reducible refine gA ?_|(with_reducible first|refine gB ?_|refine gZ (fun x hx hu=>?_)|refine gY (fun x hx=>?_)|refine gE ?_|refine QC.mk ?_ ?_|refine gS (fun h=>?_) (fun h=>?_)|refine Spl.nt ?_|refine Spl.mk (fun h=>?_) (fun h=>?_))))
 all_goals first | (exfalso; omega) | rfl
theorem QDr (m : List (List UInt8)) (hm : Z7 m) (k : Int) : FnC Tryz.prog 169 [.d (Yh m), .d (.it .i64 k)] (.d (.bl (decide ((QQ (imS m) k).u = true ∧ (QL (imS m) (QQ (imS m) k).t).k ≠ 0)))) := by
 have he := YY m hm k
 have hi := JQ m hm (QQ (imS m) k).t
 refine FnC.intro QA Tryz.func169 rfl Tryz.ntmps169 Tryz.call169 rfl (bll rfl) rfl ?_
 by_cases hu : (QQ (imS m) k).u = false
 ·have he' : Yg (QQ (imS m) k) = [.bl false, .it .i64 (QQ (imS m) k).p, .st (QQ (imS m) k).n, .it .i64 (QQ (imS m) k).t] := by rw [Yg, hu]
  rw [he'] at he
  (repeat' ((conv=>whnf);first|with_reducible refine gA ?_|((with_reducible refine QB ?_); (refine CallE.con ⟨_, he, ?_⟩))|(with_reducible first|refine gB ?_|refine gZ (fun x hx hu=>?_)|refine gY (fun x hx=>?_)|refine gE ?_|refine QC.mk ?_ ?_|refine gS (fun h=>?_) (fun h=>?_)|refine Spl.nt ?_|refine Spl.mk (fun h=>?_) (fun h=>?_))))
  refine XI (decide_eq_false fun q => ?_).symm
  rw [hu] at q; cases q.1
 ·have hu' : (QQ (imS m) k).u = true := by simpa using hu
  have he' : Yg (QQ (imS m) k) = [.bl true, .it .i64 (QQ (imS m) k).p, .st (QQ (imS m) k).n, .it .i64 (QQ (imS m) k).t] := by rw [Yg, hu']
  rw [he'] at he
  (repeat' ((conv=>whnf);first|with_reducible refine gA ?_|((with_reducible refine QB ?_); first | (refine CallE.con ⟨_, he, ?_⟩) | (refine CallE.con ⟨_, hi, ?_⟩))|(with_reducible first|refine gB ?_|refine gZ (fun x hx hu=>?_)|refine gY (fun x hx=>?_)|refine gE ?_|refine QC.mk ?_ ?_|refine gS (fun h=>?_) (fun h=>?_)|refine Spl.nt ?_|refine Spl.mk (fun h=>?_) (fun h=>?_))))
  refine XI ?_
  show (!((QL (imS m) (QQ (imS m) k).t).k == 0)) = _
  by_cases h0 : (QL (imS m) (QQ (imS m) k).t).k = 0
  ·rw [h0, decide_eq_false fun q => q.2 rfl]; rfl
  ·rw [decide_eq_true ⟨hu', h0⟩, beq_eq_false_iff_ne.2 h0]; rfl
theorem QG2 (m : List (List UInt8)) (hm : Z7 m) (p : Int) (s : List UInt8) : FnC Tryz.prog 137 [.d (Yh m), .d (.it .i64 p), .d (.st s)] (QCe (YB (imS m) p s)) := by
 have he := fun k => YY m hm k
 have hs := fun k => QDr m hm k
 generalize hR : QCe (YB (imS m) p s) = R
 have hRP : R.isP = true := by rw [← hR]; unfold QCe; split <;> rfl
 refine FnC.intro QA Tryz.func137 rfl Tryz.ntmps137 Tryz.call137 rfl (bll rfl) hRP ?_
 (repeat' ((conv=>whnf);first|with_reducible refine gA ?_|(with_reducible first|refine gB ?_|refine gZ (fun x hx hu=>?_)|refine gY (fun x hx=>?_)|refine gE ?_|refine QC.mk ?_ ?_|refine gS (fun h=>?_) (fun h=>?_)|refine Spl.nt ?_|refine Spl.mk (fun h=>?_) (fun h=>?_))))
 refine QT QA (fun k : Nat => k ≤ 24 ∧ ∀ j : Nat, j < k → ¬ QAM (imS m) p s j) (fun k : Nat => ⟨[(0, .d (Yh m)), (1, .d (.it .i64 p)), (2, .d (.st s)), (8, .d (.it .i64 (k : Nat)))], [], 0⟩) (fun k => 24 - k) 0 ⟨Nat.zero_le _, fun j hj => by omega⟩ ⟨ai rfl (ai rfl (ai rfl (ai rfl trivial))), trivial, rfl⟩ ?_
 intro k hk0
 have k1 := hk0.1
 have k2 := hk0.2
 by_cases hk : k < 24
 ·have hek := he (k : Nat)
  have hsk := hs (k : Nat)
  have next : ¬ QAM (imS m) p s k → ∀ j : Nat, j < k + 1 → ¬ QAM (imS m) p s j := fun hn j hj => by
   rcases Nat.lt_or_ge j k with hjk | hjk
   ·exact k2 j hjk
   ·obtain rfl : j = k := by omega
    exact hn
  by_cases hst : (QQ (imS m) k).u = true ∧ (QL (imS m) (QQ (imS m) k).t).k ≠ 0
  ·rw [decide_eq_true hst] at hsk
   (repeat' ((conv=>whnf);first|with_reducible refine gA ?_|((with_reducible refine QB ?_); first | (refine CallE.con ⟨_, hek, ?_⟩) | (refine CallE.con ⟨_, hsk, ?_⟩))|(with_reducible first|refine gB ?_|refine gZ (fun x hx hu=>?_)|refine gY (fun x hx=>?_)|refine gE ?_|refine QC.mk ?_ ?_|refine gS (fun h=>?_) (fun h=>?_)|refine Spl.nt ?_|refine Spl.mk (fun h=>?_) (fun h=>?_))))
   ·rw [← hR, QDl hk ⟨⟨hst.1, by assumption, hst.2⟩, by assumption⟩ k2]; rfl
   ·refine again (k + 1) ⟨by omega, next fun q => (by assumption : ¬ _) q.2⟩ (by dsimp only; omega) (ai rfl (ai rfl (ai rfl (ai (QG (by omega)) trivial)))) trivial rfl
   ·refine again (k + 1) ⟨by omega, next fun q => (by assumption : ¬ _) q.1.2.1⟩ (by dsimp only; omega) (ai rfl (ai rfl (ai rfl (ai (QG (by omega)) trivial)))) trivial rfl
  ·rw [decide_eq_false hst] at hsk
   (repeat' ((conv=>whnf);first|with_reducible refine gA ?_|((with_reducible refine QB ?_); first | (refine CallE.con ⟨_, hek, ?_⟩) | (refine CallE.con ⟨_, hsk, ?_⟩))|(with_reducible first|refine gB ?_|refine gZ (fun x hx hu=>?_)|refine gY (fun x hx=>?_)|refine gE ?_|refine QC.mk ?_ ?_|refine gS (fun h=>?_) (fun h=>?_)|refine Spl.nt ?_|refine Spl.mk (fun h=>?_) (fun h=>?_))))
   refine again (k + 1) ⟨by omega, next fun q => hst ⟨q.1.1, q.1.2.2⟩⟩ (by dsimp only; omega) (ai rfl (ai rfl (ai rfl (ai (QG (by omega)) trivial)))) trivial rfl
 ·have : k = 24 := by omega
  subst this
  (repeat' ((conv=>whnf);first|with_reducible refine gA ?_|(with_reducible first|refine gB ?_|refine gZ (fun x hx hu=>?_)|refine gY (fun x hx=>?_)|refine gE ?_|refine QC.mk ?_ ?_|refine gS (fun h=>?_) (fun h=>?_)|refine Spl.nt ?_|refine Spl.mk (fun h=>?_) (fun h=>?_))))
  rw [← hR, QDm k2]; rfl
def Z1 (f : Int → List UInt8) (p : Int) (last : List UInt8) (k : Nat) : Option (List UInt8) := Yp last (ZK f p k)
theorem QJv {f : Int → List UInt8} {p : Int} {last : List UInt8} {k : Nat} (h : ¬ QDS f p k) : Z1 f p last (k + 1) = Z1 f p last k := by
 unfold Z1; rw [QCD h]
theorem QIi {f : Int → List UInt8} {p : Int} {last : List UInt8} {k : Nat} (h : QDS f p k) : Z1 f p last (k + 1) = QDn last (Z1 f p last k) (QQ f (k : Nat)).n := by
 unfold Z1 Yp; rw [QFb h, List.foldl_append]; rfl
theorem QJw (f : Int → List UInt8) (p : Int) (i : Nat) (hi : i ≤ (nms f p).length) : Z1 f p (ZN (nms f p) i) 24 = (nms f p)[i]? := by
 refine QLQ (JR (QAt _)) (fun x => (YZ x).trans List.mem_mergeSort) (fun x hx h => ?_) i hi
 have : x ∈ nms f p := (YZ x).2 (List.mem_mergeSort.2 hx)
 have := XB f p x this
 rw [h] at this; revert this; decide
def QCn (o : Option (List UInt8)) : List UInt8 := o.getD []
theorem QNs (last x : List UInt8) : (!(Op.bytesLess x last || x == last)) = decide (last < x) := by
 by_cases h : last < x
 ·rw [decide_eq_true h]
  have h1 := (Zb last x).2 h
  have h2 := QCW _ _ h1
  have h3 : (x == last) = false := by
   refine QKr fun e => ?_
   rw [e] at h; exact Xk _ h
  rw [h2, h3]; rfl
 ·rw [decide_eq_false h]
  have h1 : Op.bytesLess last x = false := by
   cases hb : Op.bytesLess last x with
   | false => rfl
   | true => exact absurd ((Zb _ _).1 hb) h
  cases h2 : Op.bytesLess x last with
  | true => rfl
  | false =>
   have := QAi _ _ h2 h1
   rw [this]; simp
theorem QMt (x y : List UInt8) : Op.bytesLess x y = decide (x < y) := by
 cases h : Op.bytesLess x y with
 | true => exact (decide_eq_true ((Zb _ _).1 h)).symm
 | false => exact (decide_eq_false fun q => by rw [(Zb _ _).2 q] at h; cases h).symm
theorem QJx (last : List UInt8) (o : Option (List UInt8)) (x : List UInt8) : QDn last o x = bif !(Op.bytesLess x last || x == last) then (bif o.isSome then (bif Op.bytesLess x (QCn o) then some x else o) else some x) else o := by
 rw [QNs]
 cases o with
 | none =>
  show (if last < x then some x else none) = bif decide (last < x) then some x else none
  by_cases h : last < x
  ·rw [if_pos h, decide_eq_true h]; rfl
  ·rw [if_neg h, decide_eq_false h]; rfl
 | some y =>
  show (if last < x ∧ x < y then some x else some y) = bif decide (last < x) then (bif Op.bytesLess x y then some x else some y) else some y
  rw [QMt]
  by_cases h : last < x
  ·rw [decide_eq_true h]
   by_cases h2 : x < y
   ·rw [if_pos ⟨h, h2⟩, decide_eq_true h2]; rfl
   ·rw [if_neg fun q => h2 q.2, decide_eq_false h2]; rfl
  ·rw [if_neg fun q => h q.1, decide_eq_false h]; rfl
def rlA (m : List (List UInt8)) (p : Int) (S0 : List (List UInt8)) (i : Nat) : S := ⟨[(0, .d (Yh m)), (1, .d (.it .i64 p)), (5, .ts 1 (vS (S0.take i)) 1), (6, .d (.st (ZN S0 i)))], [(1, .tail 9 true)], 2⟩
def rlB (m : List (List UInt8)) (p : Int) (S0 : List (List UInt8)) (i : Nat) (o : Option (List UInt8)) (k : Nat) : S := ⟨[(0, .d (Yh m)), (1, .d (.it .i64 p)), (5, .ts 1 (vS (S0.take i)) 1), (6, .d (.st (ZN S0 i))), (7, .d (.st (QCn o))), (8, .d (.bl o.isSome)), (9, .d (.it .i64 (k : Nat)))], [(1, .tail 9 true)], 2⟩
theorem tsV {a b : List (List D)} {n : Nat} (h : a = b) : AV.ts 1 a n = AV.ts 1 b n := by rw [h]
theorem stE {a b : List UInt8} (h : a = b) : AV.d (.st a) = .d (.st b) := by rw [h]
theorem blE {a b : Bool} (h : a = b) : AV.d (.bl a) = .d (.bl b) := by rw [h]
theorem QCo (m : List (List UInt8)) (hm : Z7 m) (p : Int) : FnC Tryz.prog 136 [.d (Yh m), .d (.it .i64 p)] (.d (.fs 1 (vS (nms (imS m) p)))) := by
 have he := fun k => YY m hm k
 have hs := fun k => QDr m hm k
 have hpk := QJw (imS m) p
 have hS24 := Jn (imS m) p
 generalize hS : nms (imS m) p = S0 at hpk hS24 ⊢
 refine FnC.intro QA Tryz.func136 rfl Tryz.ntmps136 Tryz.call136 rfl (bll rfl) rfl ?_
 (repeat' ((conv=>whnf);first|with_reducible refine gA ?_|(with_reducible first|refine gB ?_|refine gZ (fun x hx hu=>?_)|refine gY (fun x hx=>?_)|refine gE ?_|refine QC.mk ?_ ?_|refine gS (fun h=>?_) (fun h=>?_)|refine Spl.nt ?_|refine Spl.mk (fun h=>?_) (fun h=>?_))))
 refine QT QA (fun i : Nat => i ≤ S0.length) (rlA m p S0) (fun i => S0.length - i) 0 (Nat.zero_le _) ⟨ai rfl (ai rfl (ai rfl (ai rfl trivial))), ai rfl trivial, rfl⟩ ?_
 intro i hi
 have hpk := hpk i hi
 have hvl : (vS (S0.take i)).length ≤ i := by unfold vS; rw [List.length_map]; exact List.length_take_le ..
 (repeat' ((conv=>whnf);first|with_reducible refine gA ?_|(with_reducible first|refine gB ?_|refine gZ (fun x hx hu=>?_)|refine gY (fun x hx=>?_)|refine gE ?_|refine QC.mk ?_ ?_|refine gS (fun h=>?_) (fun h=>?_)|refine Spl.nt ?_|refine Spl.mk (fun h=>?_) (fun h=>?_))))
 conv => whnf
 refine QT QA (fun k : Nat => k ≤ 24) (fun k => rlB m p S0 i (Z1 (imS m) p (ZN S0 i) k) k) (fun k => 24 - k) 0 (Nat.zero_le _) ⟨ai rfl (ai rfl (ai rfl (ai rfl (ai rfl (ai rfl (ai rfl trivial)))))), ai rfl trivial, rfl⟩ ?_
 intro k hk
 by_cases hk24 : k < 24
 ·have hek := he (k : Nat)
  have hsk := hs (k : Nat)
  have hyes := QIi (f := imS m) (p := p) (last := ZN S0 i) (k := k)
  have hno := QJv (f := imS m) (p := p) (last := ZN S0 i) (k := k)
  by_cases hst : (QQ (imS m) k).u = true ∧ (QL (imS m) (QQ (imS m) k).t).k ≠ 0
  ·rw [decide_eq_true hst] at hsk
   by_cases hpp : (QQ (imS m) k).p = p
   ·have hyes := hyes ⟨hst.1, hpp, hst.2⟩
    rw [QJx] at hyes
    by_cases hg : (!(Op.bytesLess (QQ (imS m) (k : Nat)).n (ZN S0 i) || (QQ (imS m) (k : Nat)).n == ZN S0 i)) = false
    ·rw [hg] at hyes
     have hno : Z1 (imS m) p (ZN S0 i) (k + 1) = Z1 (imS m) p (ZN S0 i) k := hyes
     (repeat' ((conv=>whnf);first|with_reducible refine gA ?_|((with_reducible refine QB ?_); first | (refine CallE.con ⟨_, hek, ?_⟩) | (refine CallE.con ⟨_, hsk, ?_⟩))|(with_reducible first|refine gB ?_|refine gZ (fun x hx hu=>?_)|refine gY (fun x hx=>?_)|refine gE ?_|refine QC.mk ?_ ?_|refine gS (fun h=>?_) (fun h=>?_)|refine Spl.nt ?_|refine Spl.mk (fun h=>?_) (fun h=>?_))))
     refine again (k + 1) hk24 (by dsimp only; omega) (ai rfl (ai rfl (ai rfl (ai rfl (ai (stE (congrArg QCn hno.symm)) (ai (blE (congrArg Option.isSome hno.symm)) (ai (QG (by omega)) trivial))))))) (ai rfl trivial) rfl
    ·have hg := (Bool.not_eq_false _).mp hg
     by_cases hio : (Z1 (imS m) p (ZN S0 i) k).isSome = true
     ·rw [hg, hio] at hyes
      by_cases hb : Op.bytesLess (QQ (imS m) (k : Nat)).n (QCn (Z1 (imS m) p (ZN S0 i) k)) = true
      ·rw [hb] at hyes
       have hye : Z1 (imS m) p (ZN S0 i) (k + 1) = some (QQ (imS m) (k : Nat)).n := hyes
       (repeat' ((conv=>whnf);first|with_reducible refine gA ?_|((with_reducible refine QB ?_); first | (refine CallE.con ⟨_, hek, ?_⟩) | (refine CallE.con ⟨_, hsk, ?_⟩))|(with_reducible first|refine gB ?_|refine gZ (fun x hx hu=>?_)|refine gY (fun x hx=>?_)|refine gE ?_|refine QC.mk ?_ ?_|refine gS (fun h=>?_) (fun h=>?_)|refine Spl.nt ?_|refine Spl.mk (fun h=>?_) (fun h=>?_))))
       refine again (k + 1) hk24 (by dsimp only; omega) (ai rfl (ai rfl (ai rfl (ai rfl (ai (stE (congrArg QCn hye.symm)) (ai (blE (congrArg Option.isSome hye.symm)) (ai (QG (by omega)) trivial))))))) (ai rfl trivial) rfl
      ·have hb := Bool.eq_false_iff.2 hb
       rw [hb] at hyes
       have hno : Z1 (imS m) p (ZN S0 i) (k + 1) = Z1 (imS m) p (ZN S0 i) k := hyes
       (repeat' ((conv=>whnf);first|with_reducible refine gA ?_|((with_reducible refine QB ?_); first | (refine CallE.con ⟨_, hek, ?_⟩) | (refine CallE.con ⟨_, hsk, ?_⟩))|(with_reducible first|refine gB ?_|refine gZ (fun x hx hu=>?_)|refine gY (fun x hx=>?_)|refine gE ?_|refine QC.mk ?_ ?_|refine gS (fun h=>?_) (fun h=>?_)|refine Spl.nt ?_|refine Spl.mk (fun h=>?_) (fun h=>?_))))
       refine again (k + 1) hk24 (by dsimp only; omega) (ai rfl (ai rfl (ai rfl (ai rfl (ai (stE (congrArg QCn hno.symm)) (ai (blE (congrArg Option.isSome hno.symm)) (ai (QG (by omega)) trivial))))))) (ai rfl trivial) rfl
     ·have hio := Bool.eq_false_iff.2 hio
      rw [hg, hio] at hyes
      have hye : Z1 (imS m) p (ZN S0 i) (k + 1) = some (QQ (imS m) (k : Nat)).n := hyes
      (repeat' ((conv=>whnf);first|with_reducible refine gA ?_|((with_reducible refine QB ?_); first | (refine CallE.con ⟨_, hek, ?_⟩) | (refine CallE.con ⟨_, hsk, ?_⟩))|(with_reducible first|refine gB ?_|refine gZ (fun x hx hu=>?_)|refine gY (fun x hx=>?_)|refine gE ?_|refine QC.mk ?_ ?_|refine gS (fun h=>?_) (fun h=>?_)|refine Spl.nt ?_|refine Spl.mk (fun h=>?_) (fun h=>?_))))
      refine again (k + 1) hk24 (by dsimp only; omega) (ai rfl (ai rfl (ai rfl (ai rfl (ai (stE (congrArg QCn hye.symm)) (ai (blE (congrArg Option.isSome hye.symm)) (ai (QG (by omega)) trivial))))))) (ai rfl trivial) rfl
   ·have hno := hno fun q => hpp q.2.1
    (repeat' ((conv=>whnf);first|with_reducible refine gA ?_|((with_reducible refine QB ?_); first | (refine CallE.con ⟨_, hek, ?_⟩) | (refine CallE.con ⟨_, hsk, ?_⟩))|(with_reducible first|refine gB ?_|refine gZ (fun x hx hu=>?_)|refine gY (fun x hx=>?_)|refine gE ?_|refine QC.mk ?_ ?_|refine gS (fun h=>?_) (fun h=>?_)|refine Spl.nt ?_|refine Spl.mk (fun h=>?_) (fun h=>?_))))
    refine again (k + 1) hk24 (by dsimp only; omega) (ai rfl (ai rfl (ai rfl (ai rfl (ai (stE (congrArg QCn hno.symm)) (ai (blE (congrArg Option.isSome hno.symm)) (ai (QG (by omega)) trivial))))))) (ai rfl trivial) rfl
  ·rw [decide_eq_false hst] at hsk
   have hno := hno fun q => hst ⟨q.1, q.2.2⟩
   (repeat' ((conv=>whnf);first|with_reducible refine gA ?_|((with_reducible refine QB ?_); first | (refine CallE.con ⟨_, hek, ?_⟩) | (refine CallE.con ⟨_, hsk, ?_⟩))|(with_reducible first|refine gB ?_|refine gZ (fun x hx hu=>?_)|refine gY (fun x hx=>?_)|refine gE ?_|refine QC.mk ?_ ?_|refine gS (fun h=>?_) (fun h=>?_)|refine Spl.nt ?_|refine Spl.mk (fun h=>?_) (fun h=>?_))))
   refine again (k + 1) hk24 (by dsimp only; omega) (ai rfl (ai rfl (ai rfl (ai rfl (ai (stE (congrArg QCn hno.symm)) (ai (blE (congrArg Option.isSome hno.symm)) (ai (QG (by omega)) trivial))))))) (ai rfl trivial) rfl
 ·have hke : k = 24 := by omega
  subst hke
  rcases Nat.lt_or_ge i S0.length with hil | hil
  ·obtain ⟨y, hy⟩ := QX hil
   rw [hy] at hpk
   have hios : (Z1 (imS m) p (ZN S0 i) 24).isSome = true := by rw [hpk]; rfl
   have hop : QCn (Z1 (imS m) p (ZN S0 i) 24) = y := by rw [hpk]; rfl
   have hl1 : ZN S0 (i + 1) = y := by show S0.getD i [] = y; rw [List.getD_eq_getElem?_getD, hy]; rfl
   have hv1 : vS (S0.take i) ++ [[.st y]] = vS (S0.take (i + 1)) := by rw [Qb hy]; unfold vS; rw [List.map_append]; rfl
   (repeat' ((conv=>whnf);first|with_reducible refine gA ?_|(with_reducible first|refine gB ?_|refine gZ (fun x hx hu=>?_)|refine gY (fun x hx=>?_)|refine gE ?_|refine QC.mk ?_ ?_|refine gS (fun h=>?_) (fun h=>?_)|refine Spl.nt ?_|refine Spl.mk (fun h=>?_) (fun h=>?_))))
   refine again (i + 1) hil (by dsimp only; omega) (ai rfl (ai rfl (ai (tsV ?_) (ai (stE (hop.trans hl1.symm)) trivial)))) (ai rfl trivial) rfl
   show vS (S0.take i) ++ [[.st (QCn (Z1 (imS m) p (ZN S0 i) 24))]] = _
   rw [hop]; exact hv1
  ·rw [List.getElem?_eq_none hil] at hpk
   have hios : (Z1 (imS m) p (ZN S0 i) 24).isSome = false := by rw [hpk]; rfl
   (repeat' ((conv=>whnf);first|with_reducible refine gA ?_|(with_reducible first|refine gB ?_|refine gZ (fun x hx hu=>?_)|refine gY (fun x hx=>?_)|refine gE ?_|refine QC.mk ?_ ?_|refine gS (fun h=>?_) (fun h=>?_)|refine Spl.nt ?_|refine Spl.mk (fun h=>?_) (fun h=>?_))))
   show AV.d (.fs 1 (vS (S0.take i))) = _
   rw [List.take_of_length_le hil]
def JT (f : Int → List UInt8) (x : Ino) (k : Nat) : List UInt8 := (ZE f x).take (32 * k)
def QJy (x : Ino) : Nat → Int
 | 0 => x.b0
 | 1 => x.b1
 | 2 => x.b2
 | _ => x.b3
theorem QJz {f : Int → List UInt8} (hf : ∀ n, (f n).length = 32) (x : Ino) {k m : Nat} (hk : k < 4) (hm : (m : Int) = min 32 (x.z - 32 * (k : Int))) (hz : 32 * (k : Int) < x.z) : JT f x (k + 1) = JT f x k ++ (f (40 + QJy x k)).take m := by
 have hc : ((f (40 + x.b0) ++ f (40 + x.b1) ++ f (40 + x.b2) ++ f (40 + x.b3)).drop (32 * k)).take 32 = f (40 + QJy x k) := by
  have h0 := hf (40 + x.b0)
  have h1 := hf (40 + x.b1)
  have h2 := hf (40 + x.b2)
  have h3 := hf (40 + x.b3)
  have hk' : k = 0 ∨ k = 1 ∨ k = 2 ∨ k = 3 := by omega
  rcases hk' with rfl | rfl | rfl | rfl
  ·show ((f (40 + x.b0) ++ f (40 + x.b1) ++ f (40 + x.b2) ++ f (40 + x.b3)).drop 0).take 32 = f (40 + x.b0)
   rw [List.drop_zero, List.append_assoc, List.append_assoc, List.take_left' h0]
  ·show ((f (40 + x.b0) ++ f (40 + x.b1) ++ f (40 + x.b2) ++ f (40 + x.b3)).drop 32).take 32 = f (40 + x.b1)
   rw [List.append_assoc, List.append_assoc, List.drop_left' h0, List.take_left' h1]
  ·show ((f (40 + x.b0) ++ f (40 + x.b1) ++ f (40 + x.b2) ++ f (40 + x.b3)).drop 64).take 32 = f (40 + x.b2)
   rw [List.append_assoc (f (40 + x.b0) ++ f (40 + x.b1)), List.drop_left' (by rw [List.length_append]; omega), List.take_left' h2]
  ·show ((f (40 + x.b0) ++ f (40 + x.b1) ++ f (40 + x.b2) ++ f (40 + x.b3)).drop 96).take 32 = f (40 + x.b3)
   rw [List.drop_left' (by rw [List.length_append, List.length_append]; omega), List.take_of_length_le (by omega)]
 unfold JT ZE
 generalize f (40 + x.b0) ++ f (40 + x.b1) ++ f (40 + x.b2) ++ f (40 + x.b3) = L at *
 rw [← hc, show 32 * (k + 1) = 32 * k + 32 by omega, List.take_add]
 congr 1
 rw [List.drop_take, List.take_take, List.take_take]
 congr 1
 omega
theorem QLa (f : Int → List UInt8) (x : Ino) (k : Nat) : (JT f x k).length ≤ 32 * k := by unfold JT; exact List.length_take_le ..
theorem QLb {f : Int → List UInt8} {x : Ino} {k : Nat} (h : x.z ≤ 32 * (k : Int)) : JT f x k = ZE f x := by
 unfold JT
 refine List.take_of_length_le ?_
 unfold ZE
 rw [List.length_take]; omega
def daA (d : Option Dk) (x : Ino) : Nat → S
 | 0 => ⟨[(0, .d (Zc d)), (3, .ptr 0 0), (5, .ptr 1 0), (6, .d (.it .i64 0))], [(0, .cells 6 ((Ze x).map .d)), (1, .cells 2 [.d (.ot (.pointer none)), .nl 1]), (2, .tag 1 221)], 3⟩
 | k + 1 => ⟨[(0, .d (Zc d)), (3, .ptr 0 0), (5, .ptr 1 0), (6, .d (.it .i64 (32 * (k + 1) : Nat)))], [(0, .cells 6 ((Ze x).map .d)), (1, .cells 2 [.ptr 1 0, .ts 1 (QJ (JT (rdS d) x (k + 1))) 5]), (2, .tag 1 221), (5, .tail 5 true)], 6⟩
theorem QMu {s : List UInt8} {m : Nat} (hs : s.length = 32) (hm : m ≤ 32) : MsV 3 32 ((QO s).map AV.d ++ []) (.ms 1 3 0 m 32) (.d (.fs 1 (QJ (s.take m)))) := by
 refine .inr ⟨1, 0, m, 32, _, rfl, rfl, by omega, by unfold QJ; rw [List.length_map, List.length_take]; omega, fun y hy => ?_, ?_⟩
 ·obtain ⟨b, _, rfl⟩ := List.mem_map.1 hy
  rfl
 ·rw [YW, List.drop_zero, Nat.mul_one, List.append_nil]
  unfold QO
  rw [List.map_take, List.map_take]
theorem QEZ {s : List UInt8} {m : Nat} (hs : s.length = 32) (hm : m ≤ 32) : MsV 6 32 ((QO s).map AV.d ++ []) (.ms 1 6 0 m 32) (.d (.fs 1 (QJ (s.take m)))) := by
 refine .inr ⟨1, 0, m, 32, _, rfl, rfl, by omega, by unfold QJ; rw [List.length_map, List.length_take]; omega, fun y hy => ?_, ?_⟩
 ·obtain ⟨b, _, rfl⟩ := List.mem_map.1 hy
  rfl
 ·rw [YW, List.drop_zero, Nat.mul_one, List.append_nil]
  unfold QO
  rw [List.map_take, List.map_take]
theorem QJ0 {y z : List UInt8} (h : y = z) : Ob.cells 2 [.ptr 1 0, .ts 1 (QJ y) 5] = Ob.cells 2 [.ptr 1 0, .ts 1 (QJ z) 5] := by rw [h]
theorem QCp {x y z : List UInt8} (h : x ++ y = z) : Ob.cells 2 [.ptr 1 0, .ts 1 (QJ x ++ QJ y) 5] = Ob.cells 2 [.ptr 1 0, .ts 1 (QJ z) 5] := by rw [← h, QCa]
theorem QCK (d : Option Dk) (hd : QAr d) (x : Ino) (hx : RI x) : FnC Tryz.prog 115 [.d (Zc d), .dg 6 (Ze x)] (.d (.st (ZE (rdS d) x))) := by
 have hr : ∀ b : Int, FnC Tryz.prog 94 [.d (Zc d), .d (.it .i64 (41 + b - 1))] (.tup [.dg 32 (QO (rdS d (40 + b))), .d (.it .i64 (rdE d (41 + b - 1)))]) := fun b => by
  have h := QHp d hd (41 + b - 1)
  rw [show rdS d (40 + b) = rdS d (41 + b - 1) from congrArg _ (by omega)]
  exact h
 have hl := fun n => QCA hd n
 have hz : 0 ≤ x.z ∧ x.z ≤ 128 := by
  rcases hx with h | h <;> omega
 have hb : (-1000 ≤ x.b0 ∧ x.b0 ≤ 1000) ∧ (-1000 ≤ x.b1 ∧ x.b1 ≤ 1000) ∧ (-1000 ≤ x.b2 ∧ x.b2 ≤ 1000) ∧ (-1000 ≤ x.b3 ∧ x.b3 ≤ 1000) := by
  rcases hx with h | h
  ·omega
  ·refine ⟨?_, ?_, ?_, ?_⟩ <;> omega
 refine FnC.intro QA Tryz.func115 rfl Tryz.ntmps115 Tryz.call115 rfl (bll rfl) rfl ?_
 (repeat' ((conv=>whnf);first|with_reducible refine gA ?_|(with_reducible first|refine gB ?_|refine gZ (fun x hx hu=>?_)|refine gY (fun x hx=>?_)|refine gE ?_|refine QC.mk ?_ ?_|refine gS (fun h=>?_) (fun h=>?_)|refine Spl.nt ?_|refine Spl.mk (fun h=>?_) (fun h=>?_))))
 refine QT QA (fun k : Nat => k ≤ 4) (daA d x) (fun k => 4 - k) 0 (Nat.zero_le _) ⟨ai rfl (ai rfl (ai rfl (ai rfl trivial))), ai rfl (ai rfl (ai rfl trivial)), rfl⟩ ?_
 intro k hk
 have hal := QLa (rdS d) x k
 by_cases hkz : 32 * (k : Int) < x.z
 ·have hk4 : k < 4 := by omega
  obtain ⟨m, hm, hm2, hm32⟩ : ∃ m : Nat, (if x.z - ((32 * k : Nat) : Int) < 32 then x.z - ((32 * k : Nat) : Int) else 32) = (m : Int) ∧ (m : Int) = min 32 (x.z - 32 * (k : Int)) ∧ m ≤ 32 := ⟨(if x.z - ((32 * k : Nat) : Int) < 32 then x.z - ((32 * k : Nat) : Int) else 32).toNat, by split <;> omega, by split <;> omega, by split <;> omega⟩
  have hst := QJz (f := rdS d) hl x hk4 hm2 hkz
  have hlb : (QJ (JT (rdS d) x k)).length = (JT (rdS d) x k).length := by simp [QJ]
  have hls := hl (40 + QJy x k)
  have hlt : (QJ ((rdS d (40 + QJy x k)).take m)).length ≤ 32 := by unfold QJ; rw [List.length_map, List.length_take]; omega
  have hkc : ((32 * k : Nat) : Int) < x.z := by omega
  match k, hk, hkc, hm, hst, hlb, hls, hlt, hal with
  | 0, hk, hkc, hm, hst, hlb, hls, hlt, hal =>
   have hr0 := hr x.b0
   have hlt2 : ((rdS d (40 + x.b0)).take m).length ≤ 32 := by rw [List.length_take]; omega
   have hlt3 : (QJ ((rdS d (40 + x.b0)).take m)).length ≤ 32 := hlt
   (repeat' ((conv=>whnf);first|with_reducible refine gA ?_|((with_reducible refine QB ?_); refine CallE.con ⟨_, hr0, ?_⟩) | with_reducible refine Qc.eq 0 (by decide +kernel) ?_ | with_reducible refine Qc.eq (m : Int) (by with_unfolding_all exact hm) ?_|(with_reducible first|refine gB ?_|refine gZ (fun x hx hu=>?_)|refine gY (fun x hx=>?_)|refine gE ?_|refine QC.mk ?_ ?_|refine gS (fun h=>?_) (fun h=>?_)|refine Spl.nt ?_|refine Spl.mk (fun h=>?_) (fun h=>?_))))
   refine CallI.wk (τ := ⟨[(32, .d (.fs 1 (QJ ((rdS d (40 + x.b0)).take m)))), (0, .d (Zc d)), (3, .ptr 0 0), (5, .ptr 1 0), (6, .d (.it .i64 0))], [(0, .cells 6 ((Ze x).map .d)), (1, .cells 2 [.d (.ot (.pointer none)), .nl 1]), (2, .tag 1 221)], 3⟩) (Wk.frzMsL 3 32 ((QO (rdS d (40 + x.b0))).map AV.d ++ []) rfl (ai ⟨_, rfl, QMu hls hm32⟩ (ai ⟨_, rfl, .inl rfl⟩ (ai ⟨_, rfl, .inl rfl⟩ (ai ⟨_, rfl, .inl rfl⟩ (ai ⟨_, rfl, .inl rfl⟩ trivial))))) (ai ⟨rfl, rfl⟩ (ai ⟨rfl, rfl⟩ (ai ⟨rfl, rfl⟩ (trivial)))) rfl) ⟨_, _, _, _, _, _, rfl, rfl, rfl, rfl⟩ ?_
   (repeat' ((conv=>whnf);first|with_reducible refine gA ?_|with_reducible refine CallI.inl QA QK7 rfl ?_ | with_reducible refine CallI.inl QA QK8 rfl ?_ | with_reducible refine CallI.ident QHm (by with_unfolding_all exact rfl) ?_|(with_reducible first|refine gB ?_|refine gZ (fun x hx hu=>?_)|refine gY (fun x hx=>?_)|refine gE ?_|refine QC.mk ?_ ?_|refine gS (fun h=>?_) (fun h=>?_)|refine Spl.nt ?_|refine Spl.mk (fun h=>?_) (fun h=>?_))))
   refine again 1 (by omega) (by dsimp only; omega) (ai rfl (ai rfl (ai rfl (ai rfl trivial)))) (ai rfl (ai (QJ0 ?_) (ai rfl (ai rfl trivial)))) rfl
   exact hst.symm
  | 1, hk, hkc, hm, hst, hlb, hls, hlt, hal =>
   have hr0 := hr x.b1
   have hlt2 : ((rdS d (40 + x.b1)).take m).length ≤ 32 := by rw [List.length_take]; omega
   have hlt3 : (QJ ((rdS d (40 + x.b1)).take m)).length ≤ 32 := hlt
   (repeat' ((conv=>whnf);first|with_reducible refine gA ?_|((with_reducible refine QB ?_); refine CallE.con ⟨_, hr0, ?_⟩) | with_reducible refine Qc.eq 1 (by decide +kernel) ?_ | with_reducible refine Qc.eq (m : Int) (by with_unfolding_all exact hm) ?_|(with_reducible first|refine gB ?_|refine gZ (fun x hx hu=>?_)|refine gY (fun x hx=>?_)|refine gE ?_|refine QC.mk ?_ ?_|refine gS (fun h=>?_) (fun h=>?_)|refine Spl.nt ?_|refine Spl.mk (fun h=>?_) (fun h=>?_))))
   refine CallI.wk (τ := ⟨[(32, .d (.fs 1 (QJ ((rdS d (40 + x.b1)).take m)))), (0, .d (Zc d)), (3, .ptr 0 0), (5, .ptr 1 0), (6, .d (.it .i64 (32 * (0 + 1) : Nat)))], [(0, .cells 6 ((Ze x).map .d)), (1, .cells 2 [.ptr 1 0, .ts 1 (QJ (JT (rdS d) x 1)) 5]), (2, .tag 1 221), (5, .tail 5 true)], 6⟩) (Wk.frzMsL 6 32 ((QO (rdS d (40 + x.b1))).map AV.d ++ []) rfl (ai ⟨_, rfl, QEZ hls hm32⟩ (ai ⟨_, rfl, .inl rfl⟩ (ai ⟨_, rfl, .inl rfl⟩ (ai ⟨_, rfl, .inl rfl⟩ (ai ⟨_, rfl, .inl rfl⟩ trivial))))) (ai ⟨rfl, rfl⟩ (ai ⟨rfl, rfl⟩ (ai ⟨rfl, rfl⟩ (ai ⟨rfl, rfl⟩ (trivial))))) rfl) ⟨_, _, _, _, _, _, rfl, rfl, rfl, rfl⟩ ?_
   (repeat' ((conv=>whnf);first|with_reducible refine gA ?_|with_reducible refine CallI.inl QA QK7 rfl ?_ | with_reducible refine CallI.inl QA QK8 rfl ?_ | with_reducible refine CallI.ident QHm (by with_unfolding_all exact rfl) ?_|(with_reducible first|refine gB ?_|refine gZ (fun x hx hu=>?_)|refine gY (fun x hx=>?_)|refine gE ?_|refine QC.mk ?_ ?_|refine gS (fun h=>?_) (fun h=>?_)|refine Spl.nt ?_|refine Spl.mk (fun h=>?_) (fun h=>?_))))
   refine again 2 (by omega) (by dsimp only; omega) (ai rfl (ai rfl (ai rfl (ai rfl trivial)))) (ai rfl (ai (QCp ?_) (ai rfl (ai rfl trivial)))) rfl
   exact hst.symm
  | 2, hk, hkc, hm, hst, hlb, hls, hlt, hal =>
   have hr0 := hr x.b2
   have hlt2 : ((rdS d (40 + x.b2)).take m).length ≤ 32 := by rw [List.length_take]; omega
   have hlt3 : (QJ ((rdS d (40 + x.b2)).take m)).length ≤ 32 := hlt
   (repeat' ((conv=>whnf);first|with_reducible refine gA ?_|((with_reducible refine QB ?_); refine CallE.con ⟨_, hr0, ?_⟩) | with_reducible refine Qc.eq 2 (by decide +kernel) ?_ | with_reducible refine Qc.eq (m : Int) (by with_unfolding_all exact hm) ?_|(with_reducible first|refine gB ?_|refine gZ (fun x hx hu=>?_)|refine gY (fun x hx=>?_)|refine gE ?_|refine QC.mk ?_ ?_|refine gS (fun h=>?_) (fun h=>?_)|refine Spl.nt ?_|refine Spl.mk (fun h=>?_) (fun h=>?_))))
   refine CallI.wk (τ := ⟨[(32, .d (.fs 1 (QJ ((rdS d (40 + x.b2)).take m)))), (0, .d (Zc d)), (3, .ptr 0 0), (5, .ptr 1 0), (6, .d (.it .i64 (32 * (1 + 1) : Nat)))], [(0, .cells 6 ((Ze x).map .d)), (1, .cells 2 [.ptr 1 0, .ts 1 (QJ (JT (rdS d) x 2)) 5]), (2, .tag 1 221), (5, .tail 5 true)], 6⟩) (Wk.frzMsL 6 32 ((QO (rdS d (40 + x.b2))).map AV.d ++ []) rfl (ai ⟨_, rfl, QEZ hls hm32⟩ (ai ⟨_, rfl, .inl rfl⟩ (ai ⟨_, rfl, .inl rfl⟩ (ai ⟨_, rfl, .inl rfl⟩ (ai ⟨_, rfl, .inl rfl⟩ trivial))))) (ai ⟨rfl, rfl⟩ (ai ⟨rfl, rfl⟩ (ai ⟨rfl, rfl⟩ (ai ⟨rfl, rfl⟩ (trivial))))) rfl) ⟨_, _, _, _, _, _, rfl, rfl, rfl, rfl⟩ ?_
   (repeat' ((conv=>whnf);first|with_reducible refine gA ?_|with_reducible refine CallI.inl QA QK7 rfl ?_ | with_reducible refine CallI.inl QA QK8 rfl ?_ | with_reducible refine CallI.ident QHm (by with_unfolding_all exact rfl) ?_|(with_reducible first|refine gB ?_|refine gZ (fun x hx hu=>?_)|refine gY (fun x hx=>?_)|refine gE ?_|refine QC.mk ?_ ?_|refine gS (fun h=>?_) (fun h=>?_)|refine Spl.nt ?_|refine Spl.mk (fun h=>?_) (fun h=>?_))))
   refine again 3 (by omega) (by dsimp only; omega) (ai rfl (ai rfl (ai rfl (ai rfl trivial)))) (ai rfl (ai (QCp ?_) (ai rfl (ai rfl trivial)))) rfl
   exact hst.symm
  | 3, hk, hkc, hm, hst, hlb, hls, hlt, hal =>
   have hr0 := hr x.b3
   have hlt2 : ((rdS d (40 + x.b3)).take m).length ≤ 32 := by rw [List.length_take]; omega
   have hlt3 : (QJ ((rdS d (40 + x.b3)).take m)).length ≤ 32 := hlt
   (repeat' ((conv=>whnf);first|with_reducible refine gA ?_|((with_reducible refine QB ?_); refine CallE.con ⟨_, hr0, ?_⟩) | with_reducible refine Qc.eq 3 (by decide +kernel) ?_ | with_reducible refine Qc.eq (m : Int) (by with_unfolding_all exact hm) ?_|(with_reducible first|refine gB ?_|refine gZ (fun x hx hu=>?_)|refine gY (fun x hx=>?_)|refine gE ?_|refine QC.mk ?_ ?_|refine gS (fun h=>?_) (fun h=>?_)|refine Spl.nt ?_|refine Spl.mk (fun h=>?_) (fun h=>?_))))
   refine CallI.wk (τ := ⟨[(32, .d (.fs 1 (QJ ((rdS d (40 + x.b3)).take m)))), (0, .d (Zc d)), (3, .ptr 0 0), (5, .ptr 1 0), (6, .d (.it .i64 (32 * (2 + 1) : Nat)))], [(0, .cells 6 ((Ze x).map .d)), (1, .cells 2 [.ptr 1 0, .ts 1 (QJ (JT (rdS d) x 3)) 5]), (2, .tag 1 221), (5, .tail 5 true)], 6⟩) (Wk.frzMsL 6 32 ((QO (rdS d (40 + x.b3))).map AV.d ++ []) rfl (ai ⟨_, rfl, QEZ hls hm32⟩ (ai ⟨_, rfl, .inl rfl⟩ (ai ⟨_, rfl, .inl rfl⟩ (ai ⟨_, rfl, .inl rfl⟩ (ai ⟨_, rfl, .inl rfl⟩ trivial))))) (ai ⟨rfl, rfl⟩ (ai ⟨rfl, rfl⟩ (ai ⟨rfl, rfl⟩ (ai ⟨rfl, rfl⟩ (trivial))))) rfl) ⟨_, _, _, _, _, _, rfl, rfl, rfl, rfl⟩ ?_
   (repeat' ((conv=>whnf);first|with_reducible refine gA ?_|with_reducible refine CallI.inl QA QK7 rfl ?_ | with_reducible refine CallI.inl QA QK8 rfl ?_ | with_reducible refine CallI.ident QHm (by with_unfolding_all exact rfl) ?_|(with_reducible first|refine gB ?_|refine gZ (fun x hx hu=>?_)|refine gY (fun x hx=>?_)|refine gE ?_|refine QC.mk ?_ ?_|refine gS (fun h=>?_) (fun h=>?_)|refine Spl.nt ?_|refine Spl.mk (fun h=>?_) (fun h=>?_))))
   refine again 4 (by omega) (by dsimp only; omega) (ai rfl (ai rfl (ai rfl (ai rfl trivial)))) (ai rfl (ai (QCp ?_) (ai rfl (ai rfl trivial)))) rfl
   exact hst.symm
 ·have he := QLb (f := rdS d) (x := x) (k := k) (by omega)
  have hlb : (QJ (JT (rdS d) x k)).length = (JT (rdS d) x k).length := by simp [QJ]
  match k, hk, hkz, he, hlb, hal with
  | 0, hk, hkz, he, hlb, hal =>
   (repeat' ((conv=>whnf);first|with_reducible refine gA ?_|with_reducible refine CallI.inl QA QNb rfl ?_|(with_reducible first|refine gB ?_|refine gZ (fun x hx hu=>?_)|refine gY (fun x hx=>?_)|refine gE ?_|refine QC.mk ?_ ?_|refine gS (fun h=>?_) (fun h=>?_)|refine Spl.nt ?_|refine Spl.mk (fun h=>?_) (fun h=>?_))))
   refine Jl ?_
   rw [← he]; rfl
  | k + 1, hk, hkz, he, hlb, hal =>
   (repeat' ((conv=>whnf);first|with_reducible refine gA ?_|with_reducible refine CallI.inl QA QNb rfl ?_|(with_reducible first|refine gB ?_|refine gZ (fun x hx hu=>?_)|refine gY (fun x hx=>?_)|refine gE ?_|refine QC.mk ?_ ?_|refine gS (fun h=>?_) (fun h=>?_)|refine Spl.nt ?_|refine Spl.mk (fun h=>?_) (fun h=>?_))))
   refine ⟨JT (rdS d) x (k + 1), ⟨rfl, ?_, by omega⟩, ?_⟩
   ·show ((QJ (JT (rdS d) x (k + 1))).length : Int) = _; rw [hlb]
   ·rw [he]; rfl
theorem QIj {α : Type} {l : List α} {j : Nat} {c : α} (h : l[j]? = some c) : l.drop j = c :: l.drop (j + 1) := by
 obtain ⟨hj, rfl⟩ := List.getElem?_eq_some_iff.1 h
 exact List.drop_eq_getElem_cons hj
theorem JU {i q : Nat} (hi : i ≤ 1000) (h : i / 32 = q) : IntKind.i64.wrap (Int.tdiv (i : Int) 32) = (q : Int) := by
 subst h
 have h1 : Int.tdiv (i : Int) 32 = ((i / 32 : Nat) : Int) := rfl
 rw [h1, IntWalk.i64_in _ (by omega)]
theorem QEa (i : Nat) : Int.tmod (i : Int) 32 = ((i % 32 : Nat) : Int) := rfl
def QOd (m : List (List UInt8)) (x : Ino) (i : Nat) : S := ⟨[(0, .d (Yh m)), (3, .ptr 0 0), (5, .ts 1 (QJ ((ZE (imS m) x).take i)) 1), (6, .d (.it .i64 (i : Nat)))], [(0, .cells 6 ((Ze x).map .d)), (1, .tail 5 true)], 2⟩
theorem QEb {α β : Type} {e : α → β} {l : List α} {n : Int} {x : α} {K : β → Prop} (hx : l[n.toNat]? = some x) (h : K (e x)) (h0 : 0 ≤ n ∧ n < l.length := by omega) : (0 ≤ n ∧ n < (l.map e).length) ∧ ∀ c, (l.map e)[n.toNat]? = some c → K c := ⟨by rw [List.length_map]; exact h0, fun c hc => by
 rw [List.getElem?_map, hx] at hc
 obtain rfl := Option.some.inj hc
 exact h⟩
theorem Jp {s : List UInt8} {k : Nat} {b : UInt8} (h : s[k]? = some b) : List.take 1 (List.drop (((k : Nat) : Int).toNat * 1) (QO s)) = [.it .u8 b.toNat] := by
 rw [Int.toNat_natCast, Nat.mul_one, QIj (l := QO s) (c := .it .u8 b.toNat) (by unfold QO; rw [List.getElem?_map, h]; rfl)]; rfl
theorem QEc {f : Int → List UInt8} (hf : ∀ n, (f n).length = 32) (x : Ino) {i q : Nat} (hq : i / 32 = q) (hq4 : q < 4) (hz : (i : Int) < x.z) : (ZE f x)[i]? = (f (40 + QJy x q))[i % 32]? := by
 have h0 := hf (40 + x.b0)
 have h1 := hf (40 + x.b1)
 have h2 := hf (40 + x.b2)
 have h3 := hf (40 + x.b3)
 unfold ZE
 rw [List.getElem?_take_of_lt (by omega)]
 have hk' : q = 0 ∨ q = 1 ∨ q = 2 ∨ q = 3 := by omega
 rcases hk' with rfl | rfl | rfl | rfl
 ·rw [List.append_assoc, List.append_assoc, List.getElem?_append_left (by omega), show i % 32 = i by omega]; rfl
 ·rw [List.append_assoc, List.append_assoc, List.getElem?_append_right (by omega), List.getElem?_append_left (by omega), h0, show i % 32 = i - 32 by omega]; rfl
 ·rw [List.append_assoc (f (40 + x.b0) ++ f (40 + x.b1)), List.getElem?_append_right (by rw [List.length_append]; omega), List.getElem?_append_left (by rw [List.length_append]; omega), List.length_append, h0, h1, show i % 32 = i - (32 + 32) by omega]; rfl
 ·rw [List.getElem?_append_right (by rw [List.length_append, List.length_append]; omega), List.length_append, List.length_append, h0, h1, h2, show i % 32 = i - (32 + 32 + 32) by omega]; rfl
theorem QCL {k : Nat} {b : UInt8} (h : Qk[k]? = some b) : b = 0 := by
 have h1 : ∀ c ∈ Qk, c = 0 := by decide
 exact h1 b (List.mem_of_getElem? h)
theorem QBq {a b : List (List D)} (h : a = b) : AV.ts 1 a 1 = AV.ts 1 b 1 := by rw [h]
theorem QG3 (m : List (List UInt8)) (hm : Z7 m) (x : Ino) (hx : RI x) : FnC Tryz.prog 139 [.d (Yh m), .dg 6 (Ze x)] (.d (.st (ZE (imS m) x))) := by
 have hl := fun n => QCB hm n
 have hz : 0 ≤ x.z ∧ x.z ≤ 128 := by
  rcases hx with h | h <;> omega
 have hdl : (ZE (imS m) x).length = x.z.toNat := by
  unfold ZE
  rw [List.length_take, List.length_append, List.length_append, List.length_append, hl, hl, hl, hl]; omega
 have hml : (m.map QO).length = m.length := List.length_map ..
 refine FnC.intro QA Tryz.func139 rfl Tryz.ntmps139 Tryz.call139 rfl (bll rfl) rfl ?_
 (repeat' ((conv=>whnf);first|with_reducible refine gA ?_|(with_reducible first|refine gB ?_|refine gZ (fun x hx hu=>?_)|refine gY (fun x hx=>?_)|refine gE ?_|refine QC.mk ?_ ?_|refine gS (fun h=>?_) (fun h=>?_)|refine Spl.nt ?_|refine Spl.mk (fun h=>?_) (fun h=>?_))))
 refine QT QA (fun i : Nat => (i : Int) ≤ x.z) (QOd m x) (fun i => x.z.toNat - i) 0 hz.1 ⟨ai rfl (ai rfl (ai rfl (ai rfl trivial))), ai rfl (ai rfl trivial), rfl⟩ ?_
 intro i hi
 have htl : ((ZE (imS m) x).take i).length ≤ 128 := by rw [List.length_take]; omega
 have htl2 : (QJ ((ZE (imS m) x).take i)).length ≤ 128 := by unfold QJ; rw [List.length_map]; exact htl
 by_cases hiz : (i : Int) < x.z
 ·have hq : i / 32 = 0 ∨ i / 32 = 1 ∨ i / 32 = 2 ∨ i / 32 = 3 := by omega
  obtain ⟨b, hb⟩ := QX (l := ZE (imS m) x) (k := i) (by omega)
  have hv1 : QJ ((ZE (imS m) x).take i) ++ [[D.it .u8 b.toNat]] = QJ ((ZE (imS m) x).take (i + 1)) := by rw [Qb hb, QCa]; rfl
  rcases hq with hq | hq | hq | hq
  ·have hbq : 1 ≤ x.b0 ∧ x.b0 ≤ 24 := by
    rcases hx with h | h
    ·omega
    ·have := h.2.2.2.1 (by omega)
     omega
   have hc := QEc (f := imS m) hl x hq (by decide) hiz
   rw [hb] at hc
   have hc : (imS m (40 + x.b0))[i % 32]? = some b := hc.symm
   by_cases hat : 41 + x.b0 - 1 < (m.length : Int)
   ·obtain ⟨s, hs⟩ := QX (l := m) (k := (41 + x.b0 - 1).toNat) (by omega)
    have hms : imS m (40 + x.b0) = s := by unfold imS; rw [List.getD_eq_getElem?_getD, show (40 + x.b0).toNat = (41 + x.b0 - 1).toNat by omega, hs]; rfl
    rw [hms] at hc
    have hbe := Jp hc
    (repeat' ((conv=>whnf);first|with_reducible refine gA ?_|with_reducible refine Qc.eq 0 (by with_unfolding_all exact JU (by omega) hq) ?_ | with_reducible refine Qc.eq ((i % 32 : Nat) : Int) (by with_unfolding_all exact QEa i) ?_ | with_reducible refine QEb hs ?_ | ((with_reducible refine QFE ?_); refine AtD.eq hbe ?_)|(with_reducible first|refine gB ?_|refine gZ (fun x hx hu=>?_)|refine gY (fun x hx=>?_)|refine gE ?_|refine QC.mk ?_ ?_|refine gS (fun h=>?_) (fun h=>?_)|refine Spl.nt ?_|refine Spl.mk (fun h=>?_) (fun h=>?_))))
    refine again (i + 1) (by omega) (by dsimp only; omega) (ai rfl (ai rfl (ai (QBq hv1) (ai (QG (by omega)) trivial)))) (ai rfl (ai rfl trivial)) rfl
   ·have hms : imS m (40 + x.b0) = Qk := by unfold imS; rw [List.getD_eq_getElem?_getD, List.getElem?_eq_none (by omega)]; rfl
    rw [hms] at hc
    have hb0 : b = 0 := QCL hc
    (repeat' ((conv=>whnf);first|with_reducible refine gA ?_|with_reducible refine Qc.eq 0 (by with_unfolding_all exact JU (by omega) hq) ?_|(with_reducible first|refine gB ?_|refine gZ (fun x hx hu=>?_)|refine gY (fun x hx=>?_)|refine gE ?_|refine QC.mk ?_ ?_|refine gS (fun h=>?_) (fun h=>?_)|refine Spl.nt ?_|refine Spl.mk (fun h=>?_) (fun h=>?_))))
    refine again (i + 1) (by omega) (by dsimp only; omega) (ai rfl (ai rfl (ai (QBq (by rw [← hv1, hb0]; rfl)) (ai (QG (by omega)) trivial)))) (ai rfl (ai rfl trivial)) rfl
  ·have hbq : 1 ≤ x.b1 ∧ x.b1 ≤ 24 := by
    rcases hx with h | h
    ·omega
    ·have := h.2.2.2.2.2.1 (by omega)
     omega
   have hc := QEc (f := imS m) hl x hq (by decide) hiz
   rw [hb] at hc
   have hc : (imS m (40 + x.b1))[i % 32]? = some b := hc.symm
   by_cases hat : 41 + x.b1 - 1 < (m.length : Int)
   ·obtain ⟨s, hs⟩ := QX (l := m) (k := (41 + x.b1 - 1).toNat) (by omega)
    have hms : imS m (40 + x.b1) = s := by unfold imS; rw [List.getD_eq_getElem?_getD, show (40 + x.b1).toNat = (41 + x.b1 - 1).toNat by omega, hs]; rfl
    rw [hms] at hc
    have hbe := Jp hc
    (repeat' ((conv=>whnf);first|with_reducible refine gA ?_|with_reducible refine Qc.eq 1 (by with_unfolding_all exact JU (by omega) hq) ?_ | with_reducible refine Qc.eq ((i % 32 : Nat) : Int) (by with_unfolding_all exact QEa i) ?_ | with_reducible refine QEb hs ?_ | ((with_reducible refine QFE ?_); refine AtD.eq hbe ?_)|(with_reducible first|refine gB ?_|refine gZ (fun x hx hu=>?_)|refine gY (fun x hx=>?_)|refine gE ?_|refine QC.mk ?_ ?_|refine gS (fun h=>?_) (fun h=>?_)|refine Spl.nt ?_|refine Spl.mk (fun h=>?_) (fun h=>?_))))
    refine again (i + 1) (by omega) (by dsimp only; omega) (ai rfl (ai rfl (ai (QBq hv1) (ai (QG (by omega)) trivial)))) (ai rfl (ai rfl trivial)) rfl
   ·have hms : imS m (40 + x.b1) = Qk := by unfold imS; rw [List.getD_eq_getElem?_getD, List.getElem?_eq_none (by omega)]; rfl
    rw [hms] at hc
    have hb0 : b = 0 := QCL hc
    (repeat' ((conv=>whnf);first|with_reducible refine gA ?_|with_reducible refine Qc.eq 1 (by with_unfolding_all exact JU (by omega) hq) ?_|(with_reducible first|refine gB ?_|refine gZ (fun x hx hu=>?_)|refine gY (fun x hx=>?_)|refine gE ?_|refine QC.mk ?_ ?_|refine gS (fun h=>?_) (fun h=>?_)|refine Spl.nt ?_|refine Spl.mk (fun h=>?_) (fun h=>?_))))
    refine again (i + 1) (by omega) (by dsimp only; omega) (ai rfl (ai rfl (ai (QBq (by rw [← hv1, hb0]; rfl)) (ai (QG (by omega)) trivial)))) (ai rfl (ai rfl trivial)) rfl
  ·have hbq : 1 ≤ x.b2 ∧ x.b2 ≤ 24 := by
    rcases hx with h | h
    ·omega
    ·have := h.2.2.2.2.2.2.2.1 (by omega)
     omega
   have hc := QEc (f := imS m) hl x hq (by decide) hiz
   rw [hb] at hc
   have hc : (imS m (40 + x.b2))[i % 32]? = some b := hc.symm
   by_cases hat : 41 + x.b2 - 1 < (m.length : Int)
   ·obtain ⟨s, hs⟩ := QX (l := m) (k := (41 + x.b2 - 1).toNat) (by omega)
    have hms : imS m (40 + x.b2) = s := by unfold imS; rw [List.getD_eq_getElem?_getD, show (40 + x.b2).toNat = (41 + x.b2 - 1).toNat by omega, hs]; rfl
    rw [hms] at hc
    have hbe := Jp hc
    (repeat' ((conv=>whnf);first|with_reducible refine gA ?_|with_reducible refine Qc.eq 2 (by with_unfolding_all exact JU (by omega) hq) ?_ | with_reducible refine Qc.eq ((i % 32 : Nat) : Int) (by with_unfolding_all exact QEa i) ?_ | with_reducible refine QEb hs ?_ | ((with_reducible refine QFE ?_); refine AtD.eq hbe ?_)|(with_reducible first|refine gB ?_|refine gZ (fun x hx hu=>?_)|refine gY (fun x hx=>?_)|refine gE ?_|refine QC.mk ?_ ?_|refine gS (fun h=>?_) (fun h=>?_)|refine Spl.nt ?_|refine Spl.mk (fun h=>?_) (fun h=>?_))))
    refine again (i + 1) (by omega) (by dsimp only; omega) (ai rfl (ai rfl (ai (QBq hv1) (ai (QG (by omega)) trivial)))) (ai rfl (ai rfl trivial)) rfl
   ·have hms : imS m (40 + x.b2) = Qk := by unfold imS; rw [List.getD_eq_getElem?_getD, List.getElem?_eq_none (by omega)]; rfl
    rw [hms] at hc
    have hb0 : b = 0 := QCL hc
    (repeat' ((conv=>whnf);first|with_reducible refine gA ?_|with_reducible refine Qc.eq 2 (by with_unfolding_all exact JU (by omega) hq) ?_|(with_reducible first|refine gB ?_|refine gZ (fun x hx hu=>?_)|refine gY (fun x hx=>?_)|refine gE ?_|refine QC.mk ?_ ?_|refine gS (fun h=>?_) (fun h=>?_)|refine Spl.nt ?_|refine Spl.mk (fun h=>?_) (fun h=>?_))))
    refine again (i + 1) (by omega) (by dsimp only; omega) (ai rfl (ai rfl (ai (QBq (by rw [← hv1, hb0]; rfl)) (ai (QG (by omega)) trivial)))) (ai rfl (ai rfl trivial)) rfl
  ·have hbq : 1 ≤ x.b3 ∧ x.b3 ≤ 24 := by
    rcases hx with h | h
    ·omega
    ·have := h.2.2.2.2.2.2.2.2.2.1 (by omega)
     omega
   have hc := QEc (f := imS m) hl x hq (by decide) hiz
   rw [hb] at hc
   have hc : (imS m (40 + x.b3))[i % 32]? = some b := hc.symm
   by_cases hat : 41 + x.b3 - 1 < (m.length : Int)
   ·obtain ⟨s, hs⟩ := QX (l := m) (k := (41 + x.b3 - 1).toNat) (by omega)
    have hms : imS m (40 + x.b3) = s := by unfold imS; rw [List.getD_eq_getElem?_getD, show (40 + x.b3).toNat = (41 + x.b3 - 1).toNat by omega, hs]; rfl
    rw [hms] at hc
    have hbe := Jp hc
    (repeat' ((conv=>whnf);first|with_reducible refine gA ?_|with_reducible refine Qc.eq 3 (by with_unfolding_all exact JU (by omega) hq) ?_ | with_reducible refine Qc.eq ((i % 32 : Nat) : Int) (by with_unfolding_all exact QEa i) ?_ | with_reducible refine QEb hs ?_ | ((with_reducible refine QFE ?_); refine AtD.eq hbe ?_)|(with_reducible first|refine gB ?_|refine gZ (fun x hx hu=>?_)|refine gY (fun x hx=>?_)|refine gE ?_|refine QC.mk ?_ ?_|refine gS (fun h=>?_) (fun h=>?_)|refine Spl.nt ?_|refine Spl.mk (fun h=>?_) (fun h=>?_))))
    refine again (i + 1) (by omega) (by dsimp only; omega) (ai rfl (ai rfl (ai (QBq hv1) (ai (QG (by omega)) trivial)))) (ai rfl (ai rfl trivial)) rfl
   ·have hms : imS m (40 + x.b3) = Qk := by unfold imS; rw [List.getD_eq_getElem?_getD, List.getElem?_eq_none (by omega)]; rfl
    rw [hms] at hc
    have hb0 : b = 0 := QCL hc
    (repeat' ((conv=>whnf);first|with_reducible refine gA ?_|with_reducible refine Qc.eq 3 (by with_unfolding_all exact JU (by omega) hq) ?_|(with_reducible first|refine gB ?_|refine gZ (fun x hx hu=>?_)|refine gY (fun x hx=>?_)|refine gE ?_|refine QC.mk ?_ ?_|refine gS (fun h=>?_) (fun h=>?_)|refine Spl.nt ?_|refine Spl.mk (fun h=>?_) (fun h=>?_))))
    refine again (i + 1) (by omega) (by dsimp only; omega) (ai rfl (ai rfl (ai (QBq (by rw [← hv1, hb0]; rfl)) (ai (QG (by omega)) trivial)))) (ai rfl (ai rfl trivial)) rfl
 ·have he : (ZE (imS m) x).take i = ZE (imS m) x := List.take_of_length_le (by omega)
  (repeat' ((conv=>whnf);first|with_reducible refine gA ?_|(with_reducible first|refine gB ?_|refine gZ (fun x hx hu=>?_)|refine gY (fun x hx=>?_)|refine gE ?_|refine QC.mk ?_ ?_|refine gS (fun h=>?_) (fun h=>?_)|refine Spl.nt ?_|refine Spl.mk (fun h=>?_) (fun h=>?_))))
  refine ⟨ZE (imS m) x, ?_, rfl⟩
  show QJ ((ZE (imS m) x).take i) = _
  rw [he]
theorem gB0 {p q : Prop} (k : q) (h : q → p := by intro k; with_reducible first | exact QMX k | exact QMY k | exact QOF k | exact QOG k | exact QOH k | exact QMZ k | exact Z9.mk k | exact QOI k | exact QOJ k | exact QMa k) : p := h k
structure Lv where
 N : List (List UInt8)
 k : Nat
 n : Int
 w : D
def rgD (k : Nat) (f : Func) : Ob :=
 match rg (bd f) with
 | some (ps, asg, body) => .loop k ps asg body .done (some .ret)
 | none => .frame 0 []
def tm0 (O : List (List D)) : List (Nat × Ob) := [(7, .tail 115 true), (2, .cells 1 [.ts 3 O 7]), (1, .cells 1 [.d (.bl false)]), (0, .cells 1 [.nl 3])]
def tm1 (O : List (List D)) : List (Nat × Ob) := [(7, .tail 115 true), (2, .cells 1 [.ts 3 O 7]), (1, .cells 1 [.d (.bl false)]), (0, .cells 1 [.ts 3 O 7])]
def c3 (d : Option Dk) (n : Int) (w : D) (bd bn bw : Nat) : List (Nat × Ob) := [(bd, .cells 1 [.d (Zc d)]), (bn, .cells 1 [.d (.it .i64 n)]), (bw, .cells 1 [.d w])]
def slI (bd bn bw Y : Nat) (N : List (List UInt8)) (k : Nat) : List (Nat × AV) := [(1, .ptr bw 0), (2, .ptr bd 0), (3, .ptr bn 0), (4, .ptr Y 0), (18, .d (.fs 1 (vS N))), (19, .d (.it .i64 (vS N).length)), (20, .d (.it .i64 (k : Nat)))]
def clo (bd bn bw : Nat) : AV := .fn (.func 111) [] [.ptr bw 0, .ptr bd 0, .ptr bn 0]
theorem Yt {α : Type} {l : List α} {j : Nat} {c : α} (h : l[j]? = some c) : l.drop j = c :: l.drop (j + 1) := by
 obtain ⟨hj, rfl⟩ := List.getElem?_eq_some_iff.1 h
 exact List.drop_eq_getElem_cons hj
theorem QAw (o : Option Nat) : QCe o = .tup [.d (.it .i64 (match o with | some k => (k : Nat) | none => 0)), .d (.bl o.isSome)] := by cases o <;> rfl
theorem QDs : ∀ (l : List (List UInt8)) (a : List UInt8), 47 :: Lib.join (a :: l) [47] = Q3 (a :: l)
 | [], a => by simp [Q3, Lib.join, List.intercalate]
 | b :: t, a => by
  have e : Lib.join (a :: b :: t) [47] = a ++ 47 :: Lib.join (b :: t) [47] := by simp [Lib.join, List.intercalate]
  rw [e, QDs t b]
  simp [Q3]
theorem QAN : ∀ (l : List (List UInt8)), (∀ s ∈ l, s.length ≤ 8) → (Q3 l).length ≤ 9 * l.length
 | [], _ => by simp [Q3]
 | a :: l, h => by
  have h1 := QAN l fun s hs => h s (List.mem_cons_of_mem _ hs)
  have h2 := h a List.mem_cons_self
  show ((47 :: a) ++ Q3 l).length ≤ _
  rw [List.length_append, List.length_cons, List.length_cons]; omega
theorem QAx (l : List (List UInt8)) (hl : ∀ s ∈ l, s.length ≤ 8) (h4 : l.length ≤ 4) (hne : l ≠ []) : FnC Tryz.prog 114 [.d (.fs 1 (vS l))] (.d (.st (Xf l))) := by
 have hlen := QAN l hl
 have e : 47 :: Lib.join l [47] = Xf l := by
  unfold Xf
  rw [if_neg hne]
  match l, hne with
  | a :: t, _ => exact QDs t a
 have e2 : Xf l = Q3 l := if_neg hne
 have := congrArg List.length e
 rw [List.length_cons, e2] at this
 have h := QFN l (by omega) (by omega)
 rw [e] at h
 exact h
def E0 (FT FI : Func) (R : Nat → Func → Ob) (d : Option Dk) (n : Int) (w : D) (tl : List (Nat × Ob)) : List (Nat × Ob) := (9, R 8 FT) :: (8, .frame 23 [(2, .ptr 0 0), (3, .ptr 1 0), (4, .ptr 2 0), (11, clo 4 5 6)]) :: (c3 d n w 4 5 6 ++ tl)
def E1 (FT FI : Func) (R : Nat → Func → Ob) (d : Option Dk) (n : Int) (w : D) (v0 : Lv) (tl : List (Nat × Ob)) : List (Nat × Ob) := (18, R 17 FI) :: (17, .frame 73 (slI 4 5 6 10 v0.N v0.k ++ [(65, clo 14 15 16)])) :: (c3 d n w 14 15 16 ++ (10, .cells 1 [.yld 9]) :: E0 FT FI R d v0.n v0.w tl)
def E2 (FT FI : Func) (R : Nat → Func → Ob) (d : Option Dk) (n : Int) (w : D) (v0 v1 : Lv) (tl : List (Nat × Ob)) : List (Nat × Ob) := (27, R 26 FI) :: (26, .frame 73 (slI 14 15 16 19 v1.N v1.k ++ [(65, clo 23 24 25)])) :: (c3 d n w 23 24 25 ++ (19, .cells 1 [.yld 18]) :: E1 FT FI R d v1.n v1.w v0 tl)
def E3 (FT FI : Func) (R : Nat → Func → Ob) (d : Option Dk) (n : Int) (w : D) (v0 v1 v2 : Lv) (tl : List (Nat × Ob)) : List (Nat × Ob) := (36, R 35 FI) :: (35, .frame 73 (slI 23 24 25 28 v2.N v2.k ++ [(65, clo 32 33 34)])) :: (c3 d n w 32 33 34 ++ (28, .cells 1 [.yld 27]) :: E2 FT FI R d v2.n v2.w v0 v1 tl)
def E4 (FT FI : Func) (R : Nat → Func → Ob) (d : Option Dk) (n : Int) (w : D) (v0 v1 v2 v3 : Lv) (tl : List (Nat × Ob)) : List (Nat × Ob) := (45, R 44 FI) :: (44, .frame 73 (slI 32 33 34 37 v3.N v3.k ++ [(65, clo 41 42 43)])) :: (c3 d n w 41 42 43 ++ (37, .cells 1 [.yld 36]) :: E3 FT FI R d v3.n v3.w v0 v1 v2 tl)
theorem QOe (d : Option Dk) (hd : QAr d) (v0 v1 v2 v3 : Lv) (n : Int) (way : List (List UInt8)) (hw : way.length = 4) (hwn : ∀ s ∈ way, s.length ≤ 8) (out : List Nod) (ho : out.length ≤ 64) (O : List (List D)) (hO : O = out.map QE) (G : Exit → S → Prop)
  (hA1 : (out ++ QR (rdS d) 0 n way).length ≤ 64 → G .ret ⟨[], E4 Tryz.f31 Tryz.f111 rgL d n (.fs 1 (vS way)) v0 v1 v2 v3 (tm0 ((out ++ QR (rdS d) 0 n way).map QE)), 46⟩) (hA2 : (out ++ QR (rdS d) 0 n way).length ≤ 64 → G .normal ⟨[], E4 Tryz.f31 Tryz.f111 rgL d n (.fs 1 (vS way)) v0 v1 v2 v3 (tm0 ((out ++ QR (rdS d) 0 n way).map QE)), 46⟩) (hB : ¬ (out ++ QR (rdS d) 0 n way).length ≤ 64 → G .ret ⟨[], E4 Tryz.f31 Tryz.f111 rgD d n (.fs 1 (vS way)) v0 v1 v2 v3 (tm1 (((out ++ QR (rdS d) 0 n way).take 64).map QE)), 46⟩) :
  vc Tryz.prog ti 72 (bd Tryz.f111) (fun e υ => ∃ τ, Wk 72 υ τ ∧ G e τ) ⟨idx 0 [.yld 45, .ptr 43 0, .ptr 41 0, .ptr 42 0], E4 Tryz.f31 Tryz.f111 rgL d n (.fs 1 (vS way)) v0 v1 v2 v3 (tm0 O), 46⟩ := by
 have hwl : (vS way).length = way.length := List.length_map ..
 have hT : out ++ QR (rdS d) 0 n way = out := List.append_nil _
 rw [hT, ← hO] at hA1
 (repeat' ((conv=>whnf);first|with_reducible refine gA ?_|(with_reducible first|refine gB ?_|refine gZ (fun x hx hu=>?_)|refine gY (fun x hx=>?_)|refine gE ?_|refine QC.mk ?_ ?_|refine gS (fun h=>?_) (fun h=>?_)|refine Spl.nt ?_|refine Spl.mk (fun h=>?_) (fun h=>?_))))
 exact ⟨⟨[], E4 Tryz.f31 Tryz.f111 rgL d n (.fs 1 (vS way)) v0 v1 v2 v3 (tm0 O), 46⟩, Wk.enF trivial (by (repeat (first | exact trivial | refine ai (QN rfl (by with_unfolding_all exact rfl)) ?_ | refine ai (QM (by with_unfolding_all exact rfl) (by (repeat (first | exact trivial | refine ai (by with_unfolding_all exact rfl) ?_)))) ?_))) rfl, hA1 ho⟩
theorem QOf (d : Option Dk) (hd : QAr d) (v0 v1 v2 : Lv) (n : Int) (way : List (List UInt8)) (hw : way.length = 3) (hwn : ∀ s ∈ way, s.length ≤ 8) (out : List Nod) (ho : out.length ≤ 64) (O : List (List D)) (hO : O = out.map QE) (G : Exit → S → Prop)
  (hA1 : (out ++ QR (rdS d) 1 n way).length ≤ 64 → G .ret ⟨[], E3 Tryz.f31 Tryz.f111 rgL d n (.fs 1 (vS way)) v0 v1 v2 (tm0 ((out ++ QR (rdS d) 1 n way).map QE)), 37⟩) (hA2 : (out ++ QR (rdS d) 1 n way).length ≤ 64 → G .normal ⟨[], E3 Tryz.f31 Tryz.f111 rgL d n (.fs 1 (vS way)) v0 v1 v2 (tm0 ((out ++ QR (rdS d) 1 n way).map QE)), 37⟩) (hB : ¬ (out ++ QR (rdS d) 1 n way).length ≤ 64 → G .ret ⟨[], E3 Tryz.f31 Tryz.f111 rgD d n (.fs 1 (vS way)) v0 v1 v2 (tm1 (((out ++ QR (rdS d) 1 n way).take 64).map QE)), 37⟩) :
  vc Tryz.prog ti 72 (bd Tryz.f111) (fun e υ => ∃ τ, Wk 72 υ τ ∧ G e τ) ⟨idx 0 [.yld 36, .ptr 34 0, .ptr 32 0, .ptr 33 0], E3 Tryz.f31 Tryz.f111 rgL d n (.fs 1 (vS way)) v0 v1 v2 (tm0 O), 37⟩ := by
 have hwl : (vS way).length = way.length := List.length_map ..
 have hnl : (vS (nms (rdS d) n)).length = (nms (rdS d) n).length := List.length_map ..
 have hls := QCE d hd n
 have hkb := Jn (rdS d) n
 subst hO
 (repeat' ((conv=>whnf);first|with_reducible refine gA ?_|((with_reducible refine QB ?_); refine CallE.con ⟨_, hls, ?_⟩)|(with_reducible first|refine gB ?_|refine gZ (fun x hx hu=>?_)|refine gY (fun x hx=>?_)|refine gE ?_|refine QC.mk ?_ ?_|refine gS (fun h=>?_) (fun h=>?_)|refine Spl.nt ?_|refine Spl.mk (fun h=>?_) (fun h=>?_))))
 conv => whnf
 refine Qt.wk (τ := ⟨slI 32 33 34 37 (nms (rdS d) n) 0, (37, .cells 1 [.yld 36]) :: E3 Tryz.f31 Tryz.f111 rgL d n (.fs 1 (vS way)) v0 v1 v2 (tm0 (out.map QE)), 38⟩) (Wk.enF (by (repeat (first | exact trivial | refine ai rfl ?_))) (by (repeat (first | exact trivial | refine ai (QN rfl (by with_unfolding_all exact rfl)) ?_ | refine ai (QM (by with_unfolding_all exact rfl) (by (repeat (first | exact trivial | refine ai (by with_unfolding_all exact rfl) ?_)))) ?_))) rfl) ?_
 refine QV QA (fun x : Nat × List Nod => x.1 ≤ (nms (rdS d) n).length ∧ x.2.length ≤ 64 ∧ x.2 ++ JK (rdS d) 0 n way ((nms (rdS d) n).drop x.1) = out ++ QR (rdS d) 1 n way) (fun x : Nat × List Nod => ⟨slI 32 33 34 37 (nms (rdS d) n) x.1, (37, .cells 1 [.yld 36]) :: E3 Tryz.f31 Tryz.f111 rgL d n (.fs 1 (vS way)) v0 v1 v2 (tm0 (x.2.map QE)), 38⟩) (fun x => (nms (rdS d) n).length - x.1) (0, out) ⟨Nat.zero_le _, ho, rfl⟩ (Wk.en ⟨by (repeat (first | exact trivial | refine ai rfl ?_)), by (repeat (first | exact trivial | refine ai rfl ?_)), rfl⟩) ?_
 intro ⟨k, out1⟩ ⟨k1, ho1, hT⟩
 dsimp only at k1 ho1 hT
 have hol : (out1.map QE).length = out1.length := List.length_map ..
 rcases Nat.lt_or_ge k (nms (rdS d) n).length with hkl | hkl
 ·obtain ⟨s, hs⟩ := QX hkl
  have hx : (vS (nms (rdS d) n))[k]? = some [.st s] := by unfold vS; rw [List.getElem?_map, hs]; rfl
  have hsn := JS (XB (rdS d) n s (List.mem_of_getElem? hs))
  have hwn2 : ∀ t ∈ way ++ [s], t.length ≤ 8 := fun t ht => by
   rcases List.mem_append.1 ht with ht | ht
   ·exact hwn t ht
   ·rw [List.mem_singleton.1 ht]; exact hsn
  have hw2 : (way ++ [s]).length = 4 := by rw [List.length_append, hw]; rfl
  have hf := QCC d hd n s
  rw [QAw] at hf
  have he := Yo d hd (kOf (rdS d) n s)
  have hi := YA d hd (mOf (rdS d) n s)
  have hj := QAx (way ++ [s]) hwn2 (by omega) (by simp)
  have hda := QCK d hd (QL (rdS d) (mOf (rdS d) n s)) (Yr _ _)
  rw [Yt hs, Yq] at hT
  have hwo : vS way ++ [[.st s]] = vS (way ++ [s]) := by unfold vS; rw [List.map_append]; rfl
  have htk : (List.take (((vS way).length : Nat) : Int).toNat (vS way)).length ≤ 4 := by rw [List.length_take]; omega
  have hvl : (vS (way ++ [s])).length = 4 := by unfold vS; rw [List.length_map]; exact hw2
  have hwo2 : (vS way).take (((vS way).length : Nat) : Int).toNat ++ [[.st s]] = vS (way ++ [s]) := by rw [List.take_of_length_le (by omega)]; exact hwo
  have hmap : (out1.map QE ++ [QE (Qa (rdS d) way n s)]) = (out1 ++ [(Qa (rdS d) way n s)]).map QE := by rw [List.map_append]; rfl
  have hE : out1.length = 64 → G .ret ⟨[], E3 Tryz.f31 Tryz.f111 rgD d n (.fs 1 (vS way)) v0 v1 v2 (tm1 (out1.map QE)), 37⟩ := fun h => by
   have := hB (by rw [← hT, List.length_append, List.length_cons]; omega)
   rw [← hT, List.take_left' h] at this
   exact this
  have hT2 : (QL (rdS d) (mOf (rdS d) n s)).k = 2 → ((out1 ++ [(Qa (rdS d) way n s)]) ++ QR (rdS d) 0 (mOf (rdS d) n s) (way ++ [s])) ++ JK (rdS d) 0 n way ((nms (rdS d) n).drop (k + 1)) = out ++ QR (rdS d) 1 n way := fun h => by
   rw [← hT, if_pos h]; simp only [List.append_assoc, List.cons_append, List.nil_append]
  have hT3 : ¬ (QL (rdS d) (mOf (rdS d) n s)).k = 2 → (out1 ++ [(Qa (rdS d) way n s)]) ++ JK (rdS d) 0 n way ((nms (rdS d) n).drop (k + 1)) = out ++ QR (rdS d) 1 n way := fun h => by
   rw [← hT, if_neg h]; simp only [List.append_assoc, List.cons_append, List.nil_append]
  have hE2 : (QL (rdS d) (mOf (rdS d) n s)).k = 2 → ¬ ((out1 ++ [(Qa (rdS d) way n s)]) ++ QR (rdS d) 0 (mOf (rdS d) n s) (way ++ [s])).length ≤ 64 → G .ret ⟨[], E3 Tryz.f31 Tryz.f111 rgD d n (.fs 1 (vS way)) v0 v1 v2 (tm1 ((((out1 ++ [(Qa (rdS d) way n s)]) ++ QR (rdS d) 0 (mOf (rdS d) n s) (way ++ [s])).take 64).map QE)), 37⟩ := fun h h2 => by
   have := hB (by rw [← hT2 h, List.length_append]; omega)
   rw [← hT2 h, List.take_append_of_le_length (by omega)] at this
   exact this
  have hmu : (nms (rdS d) n).length - (k + 1) < (nms (rdS d) n).length - k := by omega
  clear hT hB
  (repeat' ((conv=>whnf);first|with_reducible refine gA ?_|((with_reducible refine QB ?_); first | refine CallE.con ⟨_, hf, ?_⟩ | refine CallE.con ⟨_, he, ?_⟩ | refine CallE.con ⟨_, hi, ?_⟩ | refine CallE.con ⟨_, hj, ?_⟩ | refine CallE.con ⟨_, hda, ?_⟩ | refine CallE.inl ?_) | refine Qe.mk ⟨_, hj, ?_⟩ | refine Qe.mk ⟨_, hda, ?_⟩|(with_reducible first|refine gB0 ?_|refine gZ (fun x hx hu=>?_)|refine gY (fun x hx=>?_)|refine gE ?_|refine QC.mk ?_ ?_|refine gS (fun h=>?_) (fun h=>?_)|refine Spl.nt ?_|refine Spl.mk (fun h=>?_) (fun h=>?_))))
  refine Q9.wk (τ := ⟨(9, .d (.it .i64 (mOf (rdS d) n s))) :: (10, .ptr 38 0) :: (11, .d (.fs 1 (vS (way ++ [s])))) :: slI 32 33 34 37 (nms (rdS d) n) k, (39, .tag 38 96) :: (38, .cells 6 ((Ze (QL (rdS d) (mOf (rdS d) n s))).map .d)) :: (37, .cells 1 [.yld 36]) :: E3 Tryz.f31 Tryz.f111 rgL d n (.fs 1 (vS way)) v0 v1 v2 (tm0 (out1.map QE)), 40⟩) ?_ ?_
  ·exact Wk.vwL (by (repeat (first | exact trivial | refine ai (Vw.eq rfl) ?_ | refine ai (Vw.ts' hwo2) ?_))) (by (repeat (first | exact trivial | refine ai (VwO.same _) ?_))) rfl
  (repeat' ((conv=>whnf);first|with_reducible refine gA ?_|((with_reducible refine QB ?_); first | refine CallE.con ⟨_, hf, ?_⟩ | refine CallE.con ⟨_, he, ?_⟩ | refine CallE.con ⟨_, hi, ?_⟩ | refine CallE.con ⟨_, hj, ?_⟩ | refine CallE.con ⟨_, hda, ?_⟩ | refine CallE.inl ?_) | refine Qe.mk ⟨_, hj, ?_⟩ | refine Qe.mk ⟨_, hda, ?_⟩|(with_reducible first|refine gB ?_|refine gZ (fun x hx hu=>?_)|refine gY (fun x hx=>?_)|refine gE ?_|refine QC.mk ?_ ?_|refine gS (fun h=>?_) (fun h=>?_)|refine Spl.nt ?_|refine Spl.mk (fun h=>?_) (fun h=>?_))))
  refine ZD.post ?_
  refine ZD.intro QA (by with_unfolding_all exact rfl) (by with_unfolding_all exact rfl) (by with_unfolding_all exact rfl) ?_
  (repeat' ((conv=>whnf);first|with_reducible refine gA ?_|with_reducible refine ZD.intro QA (by with_unfolding_all exact rfl) (by with_unfolding_all exact rfl) (by with_unfolding_all exact rfl) ?_|(with_reducible first|refine gB ?_|refine gZ (fun x hx hu=>?_)|refine gY (fun x hx=>?_)|refine gE ?_|refine QC.mk ?_ ?_|refine gS (fun h=>?_) (fun h=>?_)|refine Spl.nt ?_|refine Spl.mk (fun h=>?_) (fun h=>?_))))
  ·refine ⟨⟨[(57, .d (.bl false))], E3 Tryz.f31 Tryz.f111 rgD d n (.fs 1 (vS way)) v0 v1 v2 (tm1 (out1.map QE)), 38⟩, Wk.enF (by (repeat (first | exact trivial | refine ai rfl ?_))) (by (repeat (first | exact trivial | refine ai (QN rfl (by with_unfolding_all exact rfl)) ?_ | refine ai (QM (by with_unfolding_all exact rfl) (by (repeat (first | exact trivial | refine ai (by with_unfolding_all exact rfl) ?_)))) ?_))) rfl, ?_⟩
   (repeat' ((conv=>whnf);first|with_reducible refine gA ?_|(with_reducible first|refine gB ?_|refine gZ (fun x hx hu=>?_)|refine gY (fun x hx=>?_)|refine gE ?_|refine QC.mk ?_ ?_|refine gS (fun h=>?_) (fun h=>?_)|refine Spl.nt ?_|refine Spl.mk (fun h=>?_) (fun h=>?_))))
   exact ⟨⟨[], E3 Tryz.f31 Tryz.f111 rgD d n (.fs 1 (vS way)) v0 v1 v2 (tm1 (out1.map QE)), 37⟩, Wk.enF trivial (by (repeat (first | exact trivial | refine ai (QN rfl (by with_unfolding_all exact rfl)) ?_ | refine ai (QM (by with_unfolding_all exact rfl) (by (repeat (first | exact trivial | refine ai (by with_unfolding_all exact rfl) ?_)))) ?_))) rfl, hE (by omega)⟩
  ·have hlo : (out1 ++ [(Qa (rdS d) way n s)]).length ≤ 64 := by rw [List.length_append, List.length_singleton]; omega
   refine ⟨⟨(57, .d (.bl true)) :: (9, .d (.it .i64 (mOf (rdS d) n s))) :: (10, .ptr 38 0) :: (11, .d (.fs 1 (vS (way ++ [s])))) :: slI 32 33 34 37 (nms (rdS d) n) k, (39, .tag 38 96) :: (38, .cells 6 ((Ze (QL (rdS d) (mOf (rdS d) n s))).map .d)) :: (37, .cells 1 [.yld 36]) :: E3 Tryz.f31 Tryz.f111 rgL d n (.fs 1 (vS way)) v0 v1 v2 (tm0 (out1.map QE ++ [QE (Qa (rdS d) way n s)])), 40⟩, Wk.enF (by (repeat (first | exact trivial | refine ai rfl ?_))) (by (repeat (first | exact trivial | refine ai (QN rfl (by with_unfolding_all exact rfl)) ?_ | refine ai (QM (by with_unfolding_all exact rfl) (by (repeat (first | exact trivial | refine ai (by with_unfolding_all exact rfl) ?_)))) ?_))) rfl, ?_⟩
   by_cases hk2 : (QL (rdS d) (mOf (rdS d) n s)).k = 2
   ·(repeat' ((conv=>whnf);first|with_reducible refine gA ?_|((with_reducible refine QB ?_); refine CallE.inl ?_) | with_reducible refine CallI.inl QA i73 rfl ?_|(with_reducible first|refine gB ?_|refine gZ (fun x hx hu=>?_)|refine gY (fun x hx=>?_)|refine gE ?_|refine QC.mk ?_ ?_|refine gS (fun h=>?_) (fun h=>?_)|refine Spl.nt ?_|refine Spl.mk (fun h=>?_) (fun h=>?_))))
    conv => whnf
    refine Qw.wk (τ := ⟨slI 32 33 34 37 (nms (rdS d) n) k ++ [(65, clo 41 42 43)], c3 d (mOf (rdS d) n s) (.fs 1 (vS (way ++ [s]))) 41 42 43 ++ (37, .cells 1 [.yld 36]) :: E3 Tryz.f31 Tryz.f111 rgL d n (.fs 1 (vS way)) v0 v1 v2 (tm0 (out1.map QE ++ [QE (Qa (rdS d) way n s)])), 44⟩) (Wk.enF (by (repeat (first | exact trivial | refine ai rfl ?_))) (by (repeat (first | exact trivial | refine ai (QN rfl (by with_unfolding_all exact rfl)) ?_ | refine ai (QM (by with_unfolding_all exact rfl) (by (repeat (first | exact trivial | refine ai (by with_unfolding_all exact rfl) ?_)))) ?_))) rfl) ?_
    refine Qw.introW QA QJF rfl rfl (QOe d hd v0 v1 v2 ⟨nms (rdS d) n, k, n, .fs 1 (vS way)⟩ (mOf (rdS d) n s) (way ++ [s]) hw2 hwn2 (out1 ++ [(Qa (rdS d) way n s)]) hlo (out1.map QE ++ [QE (Qa (rdS d) way n s)]) hmap _ ?_ ?_ ?_)
    ·intro h2
     (repeat' ((conv=>whnf);first|with_reducible refine gA ?_|(with_reducible first|refine gB ?_|refine gZ (fun x hx hu=>?_)|refine gY (fun x hx=>?_)|refine gE ?_|refine QC.mk ?_ ?_|refine gS (fun h=>?_) (fun h=>?_)|refine Spl.nt ?_|refine Spl.mk (fun h=>?_) (fun h=>?_))))
     exact ⟨(k + 1, (out1 ++ [(Qa (rdS d) way n s)]) ++ QR (rdS d) 0 (mOf (rdS d) n s) (way ++ [s])), ⟨hkl, h2, hT2 hk2⟩, by dsimp only; omega, Wk.enF (ai rfl (ai rfl (ai rfl (ai rfl (ai rfl (ai rfl (ai (QG (by first | omega | (dsimp only; omega))) trivial))))))) (by (repeat (first | exact trivial | refine ai (QN rfl (by with_unfolding_all exact rfl)) ?_ | refine ai (QM (by with_unfolding_all exact rfl) (by (repeat (first | exact trivial | refine ai (by with_unfolding_all exact rfl) ?_)))) ?_))) rfl⟩
    ·intro h2
     (repeat' ((conv=>whnf);first|with_reducible refine gA ?_|(with_reducible first|refine gB ?_|refine gZ (fun x hx hu=>?_)|refine gY (fun x hx=>?_)|refine gE ?_|refine QC.mk ?_ ?_|refine gS (fun h=>?_) (fun h=>?_)|refine Spl.nt ?_|refine Spl.mk (fun h=>?_) (fun h=>?_))))
     exact ⟨(k + 1, (out1 ++ [(Qa (rdS d) way n s)]) ++ QR (rdS d) 0 (mOf (rdS d) n s) (way ++ [s])), ⟨hkl, h2, hT2 hk2⟩, by dsimp only; omega, Wk.enF (ai rfl (ai rfl (ai rfl (ai rfl (ai rfl (ai rfl (ai (QG (by first | omega | (dsimp only; omega))) trivial))))))) (by (repeat (first | exact trivial | refine ai (QN rfl (by with_unfolding_all exact rfl)) ?_ | refine ai (QM (by with_unfolding_all exact rfl) (by (repeat (first | exact trivial | refine ai (by with_unfolding_all exact rfl) ?_)))) ?_))) rfl⟩
    ·intro h2
     (repeat' ((conv=>whnf);first|with_reducible refine gA ?_|(with_reducible first|refine gB ?_|refine gZ (fun x hx hu=>?_)|refine gY (fun x hx=>?_)|refine gE ?_|refine QC.mk ?_ ?_|refine gS (fun h=>?_) (fun h=>?_)|refine Spl.nt ?_|refine Spl.mk (fun h=>?_) (fun h=>?_))))
     exact ⟨⟨[], E3 Tryz.f31 Tryz.f111 rgD d n (.fs 1 (vS way)) v0 v1 v2 (tm1 ((((out1 ++ [(Qa (rdS d) way n s)]) ++ QR (rdS d) 0 (mOf (rdS d) n s) (way ++ [s])).take 64).map QE)), 37⟩, Wk.enF trivial (by (repeat (first | exact trivial | refine ai (QN rfl (by with_unfolding_all exact rfl)) ?_ | refine ai (QM (by with_unfolding_all exact rfl) (by (repeat (first | exact trivial | refine ai (by with_unfolding_all exact rfl) ?_)))) ?_))) rfl, hE2 hk2 h2⟩
   ·(repeat' ((conv=>whnf);first|with_reducible refine gA ?_|(with_reducible first|refine gB ?_|refine gZ (fun x hx hu=>?_)|refine gY (fun x hx=>?_)|refine gE ?_|refine QC.mk ?_ ?_|refine gS (fun h=>?_) (fun h=>?_)|refine Spl.nt ?_|refine Spl.mk (fun h=>?_) (fun h=>?_))))
    exact ⟨(k + 1, out1 ++ [(Qa (rdS d) way n s)]), ⟨hkl, hlo, hT3 hk2⟩, hmu, QAs (congrArg (fun O => (⟨slI 32 33 34 37 (nms (rdS d) n) (k + 1), (37, .cells 1 [.yld 36]) :: E3 Tryz.f31 Tryz.f111 rgL d n (.fs 1 (vS way)) v0 v1 v2 (tm0 O), 38⟩ : S)) hmap) (Wk.enF (ai rfl (ai rfl (ai rfl (ai rfl (ai rfl (ai rfl (ai (QG (by first | omega | (dsimp only; omega))) trivial))))))) (by (repeat (first | exact trivial | refine ai (QN rfl (by with_unfolding_all exact rfl)) ?_ | refine ai (QM (by with_unfolding_all exact rfl) (by (repeat (first | exact trivial | refine ai (by with_unfolding_all exact rfl) ?_)))) ?_))) rfl)⟩
 ·have hN : G .normal ⟨[], E3 Tryz.f31 Tryz.f111 rgL d n (.fs 1 (vS way)) v0 v1 v2 (tm0 (out1.map QE)), 37⟩ := by
   have e : out1 = out ++ QR (rdS d) 1 n way := by
    rw [← hT, List.drop_of_length_le hkl]; exact (List.append_nil _).symm
   have := hA2 (by rw [← e]; exact ho1)
   rw [← e] at this
   exact this
  (repeat' ((conv=>whnf);first|with_reducible refine gA ?_|(with_reducible first|refine gB ?_|refine gZ (fun x hx hu=>?_)|refine gY (fun x hx=>?_)|refine gE ?_|refine QC.mk ?_ ?_|refine gS (fun h=>?_) (fun h=>?_)|refine Spl.nt ?_|refine Spl.mk (fun h=>?_) (fun h=>?_))))
  exact ⟨⟨[], E3 Tryz.f31 Tryz.f111 rgL d n (.fs 1 (vS way)) v0 v1 v2 (tm0 (out1.map QE)), 37⟩, Wk.enF trivial (by (repeat (first | exact trivial | refine ai (QN rfl (by with_unfolding_all exact rfl)) ?_ | refine ai (QM (by with_unfolding_all exact rfl) (by (repeat (first | exact trivial | refine ai (by with_unfolding_all exact rfl) ?_)))) ?_))) rfl, hN⟩
theorem QOg (d : Option Dk) (hd : QAr d) (v0 v1 : Lv) (n : Int) (way : List (List UInt8)) (hw : way.length = 2) (hwn : ∀ s ∈ way, s.length ≤ 8) (out : List Nod) (ho : out.length ≤ 64) (O : List (List D)) (hO : O = out.map QE) (G : Exit → S → Prop)
  (hA1 : (out ++ QR (rdS d) 2 n way).length ≤ 64 → G .ret ⟨[], E2 Tryz.f31 Tryz.f111 rgL d n (.fs 1 (vS way)) v0 v1 (tm0 ((out ++ QR (rdS d) 2 n way).map QE)), 28⟩) (hA2 : (out ++ QR (rdS d) 2 n way).length ≤ 64 → G .normal ⟨[], E2 Tryz.f31 Tryz.f111 rgL d n (.fs 1 (vS way)) v0 v1 (tm0 ((out ++ QR (rdS d) 2 n way).map QE)), 28⟩) (hB : ¬ (out ++ QR (rdS d) 2 n way).length ≤ 64 → G .ret ⟨[], E2 Tryz.f31 Tryz.f111 rgD d n (.fs 1 (vS way)) v0 v1 (tm1 (((out ++ QR (rdS d) 2 n way).take 64).map QE)), 28⟩) :
  vc Tryz.prog ti 72 (bd Tryz.f111) (fun e υ => ∃ τ, Wk 72 υ τ ∧ G e τ) ⟨idx 0 [.yld 27, .ptr 25 0, .ptr 23 0, .ptr 24 0], E2 Tryz.f31 Tryz.f111 rgL d n (.fs 1 (vS way)) v0 v1 (tm0 O), 28⟩ := by
 have hwl : (vS way).length = way.length := List.length_map ..
 have hnl : (vS (nms (rdS d) n)).length = (nms (rdS d) n).length := List.length_map ..
 have hls := QCE d hd n
 have hkb := Jn (rdS d) n
 subst hO
 (repeat' ((conv=>whnf);first|with_reducible refine gA ?_|((with_reducible refine QB ?_); refine CallE.con ⟨_, hls, ?_⟩)|(with_reducible first|refine gB ?_|refine gZ (fun x hx hu=>?_)|refine gY (fun x hx=>?_)|refine gE ?_|refine QC.mk ?_ ?_|refine gS (fun h=>?_) (fun h=>?_)|refine Spl.nt ?_|refine Spl.mk (fun h=>?_) (fun h=>?_))))
 conv => whnf
 refine Qt.wk (τ := ⟨slI 23 24 25 28 (nms (rdS d) n) 0, (28, .cells 1 [.yld 27]) :: E2 Tryz.f31 Tryz.f111 rgL d n (.fs 1 (vS way)) v0 v1 (tm0 (out.map QE)), 29⟩) (Wk.enF (by (repeat (first | exact trivial | refine ai rfl ?_))) (by (repeat (first | exact trivial | refine ai (QN rfl (by with_unfolding_all exact rfl)) ?_ | refine ai (QM (by with_unfolding_all exact rfl) (by (repeat (first | exact trivial | refine ai (by with_unfolding_all exact rfl) ?_)))) ?_))) rfl) ?_
 refine QV QA (fun x : Nat × List Nod => x.1 ≤ (nms (rdS d) n).length ∧ x.2.length ≤ 64 ∧ x.2 ++ JK (rdS d) 1 n way ((nms (rdS d) n).drop x.1) = out ++ QR (rdS d) 2 n way) (fun x : Nat × List Nod => ⟨slI 23 24 25 28 (nms (rdS d) n) x.1, (28, .cells 1 [.yld 27]) :: E2 Tryz.f31 Tryz.f111 rgL d n (.fs 1 (vS way)) v0 v1 (tm0 (x.2.map QE)), 29⟩) (fun x => (nms (rdS d) n).length - x.1) (0, out) ⟨Nat.zero_le _, ho, rfl⟩ (Wk.en ⟨by (repeat (first | exact trivial | refine ai rfl ?_)), by (repeat (first | exact trivial | refine ai rfl ?_)), rfl⟩) ?_
 intro ⟨k, out1⟩ ⟨k1, ho1, hT⟩
 dsimp only at k1 ho1 hT
 have hol : (out1.map QE).length = out1.length := List.length_map ..
 rcases Nat.lt_or_ge k (nms (rdS d) n).length with hkl | hkl
 ·obtain ⟨s, hs⟩ := QX hkl
  have hx : (vS (nms (rdS d) n))[k]? = some [.st s] := by unfold vS; rw [List.getElem?_map, hs]; rfl
  have hsn := JS (XB (rdS d) n s (List.mem_of_getElem? hs))
  have hwn2 : ∀ t ∈ way ++ [s], t.length ≤ 8 := fun t ht => by
   rcases List.mem_append.1 ht with ht | ht
   ·exact hwn t ht
   ·rw [List.mem_singleton.1 ht]; exact hsn
  have hw2 : (way ++ [s]).length = 3 := by rw [List.length_append, hw]; rfl
  have hf := QCC d hd n s
  rw [QAw] at hf
  have he := Yo d hd (kOf (rdS d) n s)
  have hi := YA d hd (mOf (rdS d) n s)
  have hj := QAx (way ++ [s]) hwn2 (by omega) (by simp)
  have hda := QCK d hd (QL (rdS d) (mOf (rdS d) n s)) (Yr _ _)
  rw [Yt hs, Yq] at hT
  have hwo : vS way ++ [[.st s]] = vS (way ++ [s]) := by unfold vS; rw [List.map_append]; rfl
  have htk : (List.take (((vS way).length : Nat) : Int).toNat (vS way)).length ≤ 4 := by rw [List.length_take]; omega
  have hvl : (vS (way ++ [s])).length = 3 := by unfold vS; rw [List.length_map]; exact hw2
  have hwo2 : (vS way).take (((vS way).length : Nat) : Int).toNat ++ [[.st s]] = vS (way ++ [s]) := by rw [List.take_of_length_le (by omega)]; exact hwo
  have hmap : (out1.map QE ++ [QE (Qa (rdS d) way n s)]) = (out1 ++ [(Qa (rdS d) way n s)]).map QE := by rw [List.map_append]; rfl
  have hE : out1.length = 64 → G .ret ⟨[], E2 Tryz.f31 Tryz.f111 rgD d n (.fs 1 (vS way)) v0 v1 (tm1 (out1.map QE)), 28⟩ := fun h => by
   have := hB (by rw [← hT, List.length_append, List.length_cons]; omega)
   rw [← hT, List.take_left' h] at this
   exact this
  have hT2 : (QL (rdS d) (mOf (rdS d) n s)).k = 2 → ((out1 ++ [(Qa (rdS d) way n s)]) ++ QR (rdS d) 1 (mOf (rdS d) n s) (way ++ [s])) ++ JK (rdS d) 1 n way ((nms (rdS d) n).drop (k + 1)) = out ++ QR (rdS d) 2 n way := fun h => by
   rw [← hT, if_pos h]; simp only [List.append_assoc, List.cons_append, List.nil_append]
  have hT3 : ¬ (QL (rdS d) (mOf (rdS d) n s)).k = 2 → (out1 ++ [(Qa (rdS d) way n s)]) ++ JK (rdS d) 1 n way ((nms (rdS d) n).drop (k + 1)) = out ++ QR (rdS d) 2 n way := fun h => by
   rw [← hT, if_neg h]; simp only [List.append_assoc, List.cons_append, List.nil_append]
  have hE2 : (QL (rdS d) (mOf (rdS d) n s)).k = 2 → ¬ ((out1 ++ [(Qa (rdS d) way n s)]) ++ QR (rdS d) 1 (mOf (rdS d) n s) (way ++ [s])).length ≤ 64 → G .ret ⟨[], E2 Tryz.f31 Tryz.f111 rgD d n (.fs 1 (vS way)) v0 v1 (tm1 ((((out1 ++ [(Qa (rdS d) way n s)]) ++ QR (rdS d) 1 (mOf (rdS d) n s) (way ++ [s])).take 64).map QE)), 28⟩ := fun h h2 => by
   have := hB (by rw [← hT2 h, List.length_append]; omega)
   rw [← hT2 h, List.take_append_of_le_length (by omega)] at this
   exact this
  have hmu : (nms (rdS d) n).length - (k + 1) < (nms (rdS d) n).length - k := by omega
  clear hT hB
  (repeat' ((conv=>whnf);first|with_reducible refine gA ?_|((with_reducible refine QB ?_); first | refine CallE.con ⟨_, hf, ?_⟩ | refine CallE.con ⟨_, he, ?_⟩ | refine CallE.con ⟨_, hi, ?_⟩ | refine CallE.con ⟨_, hj, ?_⟩ | refine CallE.con ⟨_, hda, ?_⟩ | refine CallE.inl ?_) | refine Qe.mk ⟨_, hj, ?_⟩ | refine Qe.mk ⟨_, hda, ?_⟩|(with_reducible first|refine gB0 ?_|refine gZ (fun x hx hu=>?_)|refine gY (fun x hx=>?_)|refine gE ?_|refine QC.mk ?_ ?_|refine gS (fun h=>?_) (fun h=>?_)|refine Spl.nt ?_|refine Spl.mk (fun h=>?_) (fun h=>?_))))
  refine Q9.wk (τ := ⟨(9, .d (.it .i64 (mOf (rdS d) n s))) :: (10, .ptr 29 0) :: (11, .d (.fs 1 (vS (way ++ [s])))) :: slI 23 24 25 28 (nms (rdS d) n) k, (30, .tag 29 96) :: (29, .cells 6 ((Ze (QL (rdS d) (mOf (rdS d) n s))).map .d)) :: (28, .cells 1 [.yld 27]) :: E2 Tryz.f31 Tryz.f111 rgL d n (.fs 1 (vS way)) v0 v1 (tm0 (out1.map QE)), 31⟩) ?_ ?_
  ·exact Wk.vwL (by (repeat (first | exact trivial | refine ai (Vw.eq rfl) ?_ | refine ai (Vw.ts' hwo2) ?_))) (by (repeat (first | exact trivial | refine ai (VwO.same _) ?_))) rfl
  (repeat' ((conv=>whnf);first|with_reducible refine gA ?_|((with_reducible refine QB ?_); first | refine CallE.con ⟨_, hf, ?_⟩ | refine CallE.con ⟨_, he, ?_⟩ | refine CallE.con ⟨_, hi, ?_⟩ | refine CallE.con ⟨_, hj, ?_⟩ | refine CallE.con ⟨_, hda, ?_⟩ | refine CallE.inl ?_) | refine Qe.mk ⟨_, hj, ?_⟩ | refine Qe.mk ⟨_, hda, ?_⟩|(with_reducible first|refine gB ?_|refine gZ (fun x hx hu=>?_)|refine gY (fun x hx=>?_)|refine gE ?_|refine QC.mk ?_ ?_|refine gS (fun h=>?_) (fun h=>?_)|refine Spl.nt ?_|refine Spl.mk (fun h=>?_) (fun h=>?_))))
  refine ZD.post ?_
  refine ZD.intro QA (by with_unfolding_all exact rfl) (by with_unfolding_all exact rfl) (by with_unfolding_all exact rfl) ?_
  (repeat' ((conv=>whnf);first|with_reducible refine gA ?_|with_reducible refine ZD.intro QA (by with_unfolding_all exact rfl) (by with_unfolding_all exact rfl) (by with_unfolding_all exact rfl) ?_|(with_reducible first|refine gB ?_|refine gZ (fun x hx hu=>?_)|refine gY (fun x hx=>?_)|refine gE ?_|refine QC.mk ?_ ?_|refine gS (fun h=>?_) (fun h=>?_)|refine Spl.nt ?_|refine Spl.mk (fun h=>?_) (fun h=>?_))))
  ·refine ⟨⟨[(57, .d (.bl false))], E2 Tryz.f31 Tryz.f111 rgD d n (.fs 1 (vS way)) v0 v1 (tm1 (out1.map QE)), 29⟩, Wk.enF (by (repeat (first | exact trivial | refine ai rfl ?_))) (by (repeat (first | exact trivial | refine ai (QN rfl (by with_unfolding_all exact rfl)) ?_ | refine ai (QM (by with_unfolding_all exact rfl) (by (repeat (first | exact trivial | refine ai (by with_unfolding_all exact rfl) ?_)))) ?_))) rfl, ?_⟩
   (repeat' ((conv=>whnf);first|with_reducible refine gA ?_|(with_reducible first|refine gB ?_|refine gZ (fun x hx hu=>?_)|refine gY (fun x hx=>?_)|refine gE ?_|refine QC.mk ?_ ?_|refine gS (fun h=>?_) (fun h=>?_)|refine Spl.nt ?_|refine Spl.mk (fun h=>?_) (fun h=>?_))))
   exact ⟨⟨[], E2 Tryz.f31 Tryz.f111 rgD d n (.fs 1 (vS way)) v0 v1 (tm1 (out1.map QE)), 28⟩, Wk.enF trivial (by (repeat (first | exact trivial | refine ai (QN rfl (by with_unfolding_all exact rfl)) ?_ | refine ai (QM (by with_unfolding_all exact rfl) (by (repeat (first | exact trivial | refine ai (by with_unfolding_all exact rfl) ?_)))) ?_))) rfl, hE (by omega)⟩
  ·have hlo : (out1 ++ [(Qa (rdS d) way n s)]).length ≤ 64 := by rw [List.length_append, List.length_singleton]; omega
   refine ⟨⟨(57, .d (.bl true)) :: (9, .d (.it .i64 (mOf (rdS d) n s))) :: (10, .ptr 29 0) :: (11, .d (.fs 1 (vS (way ++ [s])))) :: slI 23 24 25 28 (nms (rdS d) n) k, (30, .tag 29 96) :: (29, .cells 6 ((Ze (QL (rdS d) (mOf (rdS d) n s))).map .d)) :: (28, .cells 1 [.yld 27]) :: E2 Tryz.f31 Tryz.f111 rgL d n (.fs 1 (vS way)) v0 v1 (tm0 (out1.map QE ++ [QE (Qa (rdS d) way n s)])), 31⟩, Wk.enF (by (repeat (first | exact trivial | refine ai rfl ?_))) (by (repeat (first | exact trivial | refine ai (QN rfl (by with_unfolding_all exact rfl)) ?_ | refine ai (QM (by with_unfolding_all exact rfl) (by (repeat (first | exact trivial | refine ai (by with_unfolding_all exact rfl) ?_)))) ?_))) rfl, ?_⟩
   by_cases hk2 : (QL (rdS d) (mOf (rdS d) n s)).k = 2
   ·(repeat' ((conv=>whnf);first|with_reducible refine gA ?_|((with_reducible refine QB ?_); refine CallE.inl ?_) | with_reducible refine CallI.inl QA i73 rfl ?_|(with_reducible first|refine gB ?_|refine gZ (fun x hx hu=>?_)|refine gY (fun x hx=>?_)|refine gE ?_|refine QC.mk ?_ ?_|refine gS (fun h=>?_) (fun h=>?_)|refine Spl.nt ?_|refine Spl.mk (fun h=>?_) (fun h=>?_))))
    conv => whnf
    refine Qw.wk (τ := ⟨slI 23 24 25 28 (nms (rdS d) n) k ++ [(65, clo 32 33 34)], c3 d (mOf (rdS d) n s) (.fs 1 (vS (way ++ [s]))) 32 33 34 ++ (28, .cells 1 [.yld 27]) :: E2 Tryz.f31 Tryz.f111 rgL d n (.fs 1 (vS way)) v0 v1 (tm0 (out1.map QE ++ [QE (Qa (rdS d) way n s)])), 35⟩) (Wk.enF (by (repeat (first | exact trivial | refine ai rfl ?_))) (by (repeat (first | exact trivial | refine ai (QN rfl (by with_unfolding_all exact rfl)) ?_ | refine ai (QM (by with_unfolding_all exact rfl) (by (repeat (first | exact trivial | refine ai (by with_unfolding_all exact rfl) ?_)))) ?_))) rfl) ?_
    refine Qw.introW QA QJF rfl rfl (QOf d hd v0 v1 ⟨nms (rdS d) n, k, n, .fs 1 (vS way)⟩ (mOf (rdS d) n s) (way ++ [s]) hw2 hwn2 (out1 ++ [(Qa (rdS d) way n s)]) hlo (out1.map QE ++ [QE (Qa (rdS d) way n s)]) hmap _ ?_ ?_ ?_)
    ·intro h2
     (repeat' ((conv=>whnf);first|with_reducible refine gA ?_|(with_reducible first|refine gB ?_|refine gZ (fun x hx hu=>?_)|refine gY (fun x hx=>?_)|refine gE ?_|refine QC.mk ?_ ?_|refine gS (fun h=>?_) (fun h=>?_)|refine Spl.nt ?_|refine Spl.mk (fun h=>?_) (fun h=>?_))))
     exact ⟨(k + 1, (out1 ++ [(Qa (rdS d) way n s)]) ++ QR (rdS d) 1 (mOf (rdS d) n s) (way ++ [s])), ⟨hkl, h2, hT2 hk2⟩, by dsimp only; omega, Wk.enF (ai rfl (ai rfl (ai rfl (ai rfl (ai rfl (ai rfl (ai (QG (by first | omega | (dsimp only; omega))) trivial))))))) (by (repeat (first | exact trivial | refine ai (QN rfl (by with_unfolding_all exact rfl)) ?_ | refine ai (QM (by with_unfolding_all exact rfl) (by (repeat (first | exact trivial | refine ai (by with_unfolding_all exact rfl) ?_)))) ?_))) rfl⟩
    ·intro h2
     (repeat' ((conv=>whnf);first|with_reducible refine gA ?_|(with_reducible first|refine gB ?_|refine gZ (fun x hx hu=>?_)|refine gY (fun x hx=>?_)|refine gE ?_|refine QC.mk ?_ ?_|refine gS (fun h=>?_) (fun h=>?_)|refine Spl.nt ?_|refine Spl.mk (fun h=>?_) (fun h=>?_))))
     exact ⟨(k + 1, (out1 ++ [(Qa (rdS d) way n s)]) ++ QR (rdS d) 1 (mOf (rdS d) n s) (way ++ [s])), ⟨hkl, h2, hT2 hk2⟩, by dsimp only; omega, Wk.enF (ai rfl (ai rfl (ai rfl (ai rfl (ai rfl (ai rfl (ai (QG (by first | omega | (dsimp only; omega))) trivial))))))) (by (repeat (first | exact trivial | refine ai (QN rfl (by with_unfolding_all exact rfl)) ?_ | refine ai (QM (by with_unfolding_all exact rfl) (by (repeat (first | exact trivial | refine ai (by with_unfolding_all exact rfl) ?_)))) ?_))) rfl⟩
    ·intro h2
     (repeat' ((conv=>whnf);first|with_reducible refine gA ?_|(with_reducible first|refine gB ?_|refine gZ (fun x hx hu=>?_)|refine gY (fun x hx=>?_)|refine gE ?_|refine QC.mk ?_ ?_|refine gS (fun h=>?_) (fun h=>?_)|refine Spl.nt ?_|refine Spl.mk (fun h=>?_) (fun h=>?_))))
     exact ⟨⟨[], E2 Tryz.f31 Tryz.f111 rgD d n (.fs 1 (vS way)) v0 v1 (tm1 ((((out1 ++ [(Qa (rdS d) way n s)]) ++ QR (rdS d) 1 (mOf (rdS d) n s) (way ++ [s])).take 64).map QE)), 28⟩, Wk.enF trivial (by (repeat (first | exact trivial | refine ai (QN rfl (by with_unfolding_all exact rfl)) ?_ | refine ai (QM (by with_unfolding_all exact rfl) (by (repeat (first | exact trivial | refine ai (by with_unfolding_all exact rfl) ?_)))) ?_))) rfl, hE2 hk2 h2⟩
   ·(repeat' ((conv=>whnf);first|with_reducible refine gA ?_|(with_reducible first|refine gB ?_|refine gZ (fun x hx hu=>?_)|refine gY (fun x hx=>?_)|refine gE ?_|refine QC.mk ?_ ?_|refine gS (fun h=>?_) (fun h=>?_)|refine Spl.nt ?_|refine Spl.mk (fun h=>?_) (fun h=>?_))))
    exact ⟨(k + 1, out1 ++ [(Qa (rdS d) way n s)]), ⟨hkl, hlo, hT3 hk2⟩, hmu, QAs (congrArg (fun O => (⟨slI 23 24 25 28 (nms (rdS d) n) (k + 1), (28, .cells 1 [.yld 27]) :: E2 Tryz.f31 Tryz.f111 rgL d n (.fs 1 (vS way)) v0 v1 (tm0 O), 29⟩ : S)) hmap) (Wk.enF (ai rfl (ai rfl (ai rfl (ai rfl (ai rfl (ai rfl (ai (QG (by first | omega | (dsimp only; omega))) trivial))))))) (by (repeat (first | exact trivial | refine ai (QN rfl (by with_unfolding_all exact rfl)) ?_ | refine ai (QM (by with_unfolding_all exact rfl) (by (repeat (first | exact trivial | refine ai (by with_unfolding_all exact rfl) ?_)))) ?_))) rfl)⟩
 ·have hN : G .normal ⟨[], E2 Tryz.f31 Tryz.f111 rgL d n (.fs 1 (vS way)) v0 v1 (tm0 (out1.map QE)), 28⟩ := by
   have e : out1 = out ++ QR (rdS d) 2 n way := by
    rw [← hT, List.drop_of_length_le hkl]; exact (List.append_nil _).symm
   have := hA2 (by rw [← e]; exact ho1)
   rw [← e] at this
   exact this
  (repeat' ((conv=>whnf);first|with_reducible refine gA ?_|(with_reducible first|refine gB ?_|refine gZ (fun x hx hu=>?_)|refine gY (fun x hx=>?_)|refine gE ?_|refine QC.mk ?_ ?_|refine gS (fun h=>?_) (fun h=>?_)|refine Spl.nt ?_|refine Spl.mk (fun h=>?_) (fun h=>?_))))
  exact ⟨⟨[], E2 Tryz.f31 Tryz.f111 rgL d n (.fs 1 (vS way)) v0 v1 (tm0 (out1.map QE)), 28⟩, Wk.enF trivial (by (repeat (first | exact trivial | refine ai (QN rfl (by with_unfolding_all exact rfl)) ?_ | refine ai (QM (by with_unfolding_all exact rfl) (by (repeat (first | exact trivial | refine ai (by with_unfolding_all exact rfl) ?_)))) ?_))) rfl, hN⟩
theorem QOh (d : Option Dk) (hd : QAr d) (v0 : Lv) (n : Int) (way : List (List UInt8)) (hw : way.length = 1) (hwn : ∀ s ∈ way, s.length ≤ 8) (out : List Nod) (ho : out.length ≤ 64) (O : List (List D)) (hO : O = out.map QE) (G : Exit → S → Prop)
  (hA1 : (out ++ QR (rdS d) 3 n way).length ≤ 64 → G .ret ⟨[], E1 Tryz.f31 Tryz.f111 rgL d n (.fs 1 (vS way)) v0 (tm0 ((out ++ QR (rdS d) 3 n way).map QE)), 19⟩) (hA2 : (out ++ QR (rdS d) 3 n way).length ≤ 64 → G .normal ⟨[], E1 Tryz.f31 Tryz.f111 rgL d n (.fs 1 (vS way)) v0 (tm0 ((out ++ QR (rdS d) 3 n way).map QE)), 19⟩) (hB : ¬ (out ++ QR (rdS d) 3 n way).length ≤ 64 → G .ret ⟨[], E1 Tryz.f31 Tryz.f111 rgD d n (.fs 1 (vS way)) v0 (tm1 (((out ++ QR (rdS d) 3 n way).take 64).map QE)), 19⟩) :
  vc Tryz.prog ti 72 (bd Tryz.f111) (fun e υ => ∃ τ, Wk 72 υ τ ∧ G e τ) ⟨idx 0 [.yld 18, .ptr 16 0, .ptr 14 0, .ptr 15 0], E1 Tryz.f31 Tryz.f111 rgL d n (.fs 1 (vS way)) v0 (tm0 O), 19⟩ := by
 have hwl : (vS way).length = way.length := List.length_map ..
 have hnl : (vS (nms (rdS d) n)).length = (nms (rdS d) n).length := List.length_map ..
 have hls := QCE d hd n
 have hkb := Jn (rdS d) n
 subst hO
 (repeat' ((conv=>whnf);first|with_reducible refine gA ?_|((with_reducible refine QB ?_); refine CallE.con ⟨_, hls, ?_⟩)|(with_reducible first|refine gB ?_|refine gZ (fun x hx hu=>?_)|refine gY (fun x hx=>?_)|refine gE ?_|refine QC.mk ?_ ?_|refine gS (fun h=>?_) (fun h=>?_)|refine Spl.nt ?_|refine Spl.mk (fun h=>?_) (fun h=>?_))))
 conv => whnf
 refine Qt.wk (τ := ⟨slI 14 15 16 19 (nms (rdS d) n) 0, (19, .cells 1 [.yld 18]) :: E1 Tryz.f31 Tryz.f111 rgL d n (.fs 1 (vS way)) v0 (tm0 (out.map QE)), 20⟩) (Wk.enF (by (repeat (first | exact trivial | refine ai rfl ?_))) (by (repeat (first | exact trivial | refine ai (QN rfl (by with_unfolding_all exact rfl)) ?_ | refine ai (QM (by with_unfolding_all exact rfl) (by (repeat (first | exact trivial | refine ai (by with_unfolding_all exact rfl) ?_)))) ?_))) rfl) ?_
 refine QV QA (fun x : Nat × List Nod => x.1 ≤ (nms (rdS d) n).length ∧ x.2.length ≤ 64 ∧ x.2 ++ JK (rdS d) 2 n way ((nms (rdS d) n).drop x.1) = out ++ QR (rdS d) 3 n way) (fun x : Nat × List Nod => ⟨slI 14 15 16 19 (nms (rdS d) n) x.1, (19, .cells 1 [.yld 18]) :: E1 Tryz.f31 Tryz.f111 rgL d n (.fs 1 (vS way)) v0 (tm0 (x.2.map QE)), 20⟩) (fun x => (nms (rdS d) n).length - x.1) (0, out) ⟨Nat.zero_le _, ho, rfl⟩ (Wk.en ⟨by (repeat (first | exact trivial | refine ai rfl ?_)), by (repeat (first | exact trivial | refine ai rfl ?_)), rfl⟩) ?_
 intro ⟨k, out1⟩ ⟨k1, ho1, hT⟩
 dsimp only at k1 ho1 hT
 have hol : (out1.map QE).length = out1.length := List.length_map ..
 rcases Nat.lt_or_ge k (nms (rdS d) n).length with hkl | hkl
 ·obtain ⟨s, hs⟩ := QX hkl
  have hx : (vS (nms (rdS d) n))[k]? = some [.st s] := by unfold vS; rw [List.getElem?_map, hs]; rfl
  have hsn := JS (XB (rdS d) n s (List.mem_of_getElem? hs))
  have hwn2 : ∀ t ∈ way ++ [s], t.length ≤ 8 := fun t ht => by
   rcases List.mem_append.1 ht with ht | ht
   ·exact hwn t ht
   ·rw [List.mem_singleton.1 ht]; exact hsn
  have hw2 : (way ++ [s]).length = 2 := by rw [List.length_append, hw]; rfl
  have hf := QCC d hd n s
  rw [QAw] at hf
  have he := Yo d hd (kOf (rdS d) n s)
  have hi := YA d hd (mOf (rdS d) n s)
  have hj := QAx (way ++ [s]) hwn2 (by omega) (by simp)
  have hda := QCK d hd (QL (rdS d) (mOf (rdS d) n s)) (Yr _ _)
  rw [Yt hs, Yq] at hT
  have hwo : vS way ++ [[.st s]] = vS (way ++ [s]) := by unfold vS; rw [List.map_append]; rfl
  have htk : (List.take (((vS way).length : Nat) : Int).toNat (vS way)).length ≤ 4 := by rw [List.length_take]; omega
  have hvl : (vS (way ++ [s])).length = 2 := by unfold vS; rw [List.length_map]; exact hw2
  have hwo2 : (vS way).take (((vS way).length : Nat) : Int).toNat ++ [[.st s]] = vS (way ++ [s]) := by rw [List.take_of_length_le (by omega)]; exact hwo
  have hmap : (out1.map QE ++ [QE (Qa (rdS d) way n s)]) = (out1 ++ [(Qa (rdS d) way n s)]).map QE := by rw [List.map_append]; rfl
  have hE : out1.length = 64 → G .ret ⟨[], E1 Tryz.f31 Tryz.f111 rgD d n (.fs 1 (vS way)) v0 (tm1 (out1.map QE)), 19⟩ := fun h => by
   have := hB (by rw [← hT, List.length_append, List.length_cons]; omega)
   rw [← hT, List.take_left' h] at this
   exact this
  have hT2 : (QL (rdS d) (mOf (rdS d) n s)).k = 2 → ((out1 ++ [(Qa (rdS d) way n s)]) ++ QR (rdS d) 2 (mOf (rdS d) n s) (way ++ [s])) ++ JK (rdS d) 2 n way ((nms (rdS d) n).drop (k + 1)) = out ++ QR (rdS d) 3 n way := fun h => by
   rw [← hT, if_pos h]; simp only [List.append_assoc, List.cons_append, List.nil_append]
  have hT3 : ¬ (QL (rdS d) (mOf (rdS d) n s)).k = 2 → (out1 ++ [(Qa (rdS d) way n s)]) ++ JK (rdS d) 2 n way ((nms (rdS d) n).drop (k + 1)) = out ++ QR (rdS d) 3 n way := fun h => by
   rw [← hT, if_neg h]; simp only [List.append_assoc, List.cons_append, List.nil_append]
  have hE2 : (QL (rdS d) (mOf (rdS d) n s)).k = 2 → ¬ ((out1 ++ [(Qa (rdS d) way n s)]) ++ QR (rdS d) 2 (mOf (rdS d) n s) (way ++ [s])).length ≤ 64 → G .ret ⟨[], E1 Tryz.f31 Tryz.f111 rgD d n (.fs 1 (vS way)) v0 (tm1 ((((out1 ++ [(Qa (rdS d) way n s)]) ++ QR (rdS d) 2 (mOf (rdS d) n s) (way ++ [s])).take 64).map QE)), 19⟩ := fun h h2 => by
   have := hB (by rw [← hT2 h, List.length_append]; omega)
   rw [← hT2 h, List.take_append_of_le_length (by omega)] at this
   exact this
  have hmu : (nms (rdS d) n).length - (k + 1) < (nms (rdS d) n).length - k := by omega
  clear hT hB
  (repeat' ((conv=>whnf);first|with_reducible refine gA ?_|((with_reducible refine QB ?_); first | refine CallE.con ⟨_, hf, ?_⟩ | refine CallE.con ⟨_, he, ?_⟩ | refine CallE.con ⟨_, hi, ?_⟩ | refine CallE.con ⟨_, hj, ?_⟩ | refine CallE.con ⟨_, hda, ?_⟩ | refine CallE.inl ?_) | refine Qe.mk ⟨_, hj, ?_⟩ | refine Qe.mk ⟨_, hda, ?_⟩|(with_reducible first|refine gB0 ?_|refine gZ (fun x hx hu=>?_)|refine gY (fun x hx=>?_)|refine gE ?_|refine QC.mk ?_ ?_|refine gS (fun h=>?_) (fun h=>?_)|refine Spl.nt ?_|refine Spl.mk (fun h=>?_) (fun h=>?_))))
  refine Q9.wk (τ := ⟨(9, .d (.it .i64 (mOf (rdS d) n s))) :: (10, .ptr 20 0) :: (11, .d (.fs 1 (vS (way ++ [s])))) :: slI 14 15 16 19 (nms (rdS d) n) k, (21, .tag 20 96) :: (20, .cells 6 ((Ze (QL (rdS d) (mOf (rdS d) n s))).map .d)) :: (19, .cells 1 [.yld 18]) :: E1 Tryz.f31 Tryz.f111 rgL d n (.fs 1 (vS way)) v0 (tm0 (out1.map QE)), 22⟩) ?_ ?_
  ·exact Wk.vwL (by (repeat (first | exact trivial | refine ai (Vw.eq rfl) ?_ | refine ai (Vw.ts' hwo2) ?_))) (by (repeat (first | exact trivial | refine ai (VwO.same _) ?_))) rfl
  (repeat' ((conv=>whnf);first|with_reducible refine gA ?_|((with_reducible refine QB ?_); first | refine CallE.con ⟨_, hf, ?_⟩ | refine CallE.con ⟨_, he, ?_⟩ | refine CallE.con ⟨_, hi, ?_⟩ | refine CallE.con ⟨_, hj, ?_⟩ | refine CallE.con ⟨_, hda, ?_⟩ | refine CallE.inl ?_) | refine Qe.mk ⟨_, hj, ?_⟩ | refine Qe.mk ⟨_, hda, ?_⟩|(with_reducible first|refine gB ?_|refine gZ (fun x hx hu=>?_)|refine gY (fun x hx=>?_)|refine gE ?_|refine QC.mk ?_ ?_|refine gS (fun h=>?_) (fun h=>?_)|refine Spl.nt ?_|refine Spl.mk (fun h=>?_) (fun h=>?_))))
  refine ZD.post ?_
  refine ZD.intro QA (by with_unfolding_all exact rfl) (by with_unfolding_all exact rfl) (by with_unfolding_all exact rfl) ?_
  (repeat' ((conv=>whnf);first|with_reducible refine gA ?_|with_reducible refine ZD.intro QA (by with_unfolding_all exact rfl) (by with_unfolding_all exact rfl) (by with_unfolding_all exact rfl) ?_|(with_reducible first|refine gB ?_|refine gZ (fun x hx hu=>?_)|refine gY (fun x hx=>?_)|refine gE ?_|refine QC.mk ?_ ?_|refine gS (fun h=>?_) (fun h=>?_)|refine Spl.nt ?_|refine Spl.mk (fun h=>?_) (fun h=>?_))))
  ·refine ⟨⟨[(57, .d (.bl false))], E1 Tryz.f31 Tryz.f111 rgD d n (.fs 1 (vS way)) v0 (tm1 (out1.map QE)), 20⟩, Wk.enF (by (repeat (first | exact trivial | refine ai rfl ?_))) (by (repeat (first | exact trivial | refine ai (QN rfl (by with_unfolding_all exact rfl)) ?_ | refine ai (QM (by with_unfolding_all exact rfl) (by (repeat (first | exact trivial | refine ai (by with_unfolding_all exact rfl) ?_)))) ?_))) rfl, ?_⟩
   (repeat' ((conv=>whnf);first|with_reducible refine gA ?_|(with_reducible first|refine gB ?_|refine gZ (fun x hx hu=>?_)|refine gY (fun x hx=>?_)|refine gE ?_|refine QC.mk ?_ ?_|refine gS (fun h=>?_) (fun h=>?_)|refine Spl.nt ?_|refine Spl.mk (fun h=>?_) (fun h=>?_))))
   exact ⟨⟨[], E1 Tryz.f31 Tryz.f111 rgD d n (.fs 1 (vS way)) v0 (tm1 (out1.map QE)), 19⟩, Wk.enF trivial (by (repeat (first | exact trivial | refine ai (QN rfl (by with_unfolding_all exact rfl)) ?_ | refine ai (QM (by with_unfolding_all exact rfl) (by (repeat (first | exact trivial | refine ai (by with_unfolding_all exact rfl) ?_)))) ?_))) rfl, hE (by omega)⟩
  ·have hlo : (out1 ++ [(Qa (rdS d) way n s)]).length ≤ 64 := by rw [List.length_append, List.length_singleton]; omega
   refine ⟨⟨(57, .d (.bl true)) :: (9, .d (.it .i64 (mOf (rdS d) n s))) :: (10, .ptr 20 0) :: (11, .d (.fs 1 (vS (way ++ [s])))) :: slI 14 15 16 19 (nms (rdS d) n) k, (21, .tag 20 96) :: (20, .cells 6 ((Ze (QL (rdS d) (mOf (rdS d) n s))).map .d)) :: (19, .cells 1 [.yld 18]) :: E1 Tryz.f31 Tryz.f111 rgL d n (.fs 1 (vS way)) v0 (tm0 (out1.map QE ++ [QE (Qa (rdS d) way n s)])), 22⟩, Wk.enF (by (repeat (first | exact trivial | refine ai rfl ?_))) (by (repeat (first | exact trivial | refine ai (QN rfl (by with_unfolding_all exact rfl)) ?_ | refine ai (QM (by with_unfolding_all exact rfl) (by (repeat (first | exact trivial | refine ai (by with_unfolding_all exact rfl) ?_)))) ?_))) rfl, ?_⟩
   by_cases hk2 : (QL (rdS d) (mOf (rdS d) n s)).k = 2
   ·(repeat' ((conv=>whnf);first|with_reducible refine gA ?_|((with_reducible refine QB ?_); refine CallE.inl ?_) | with_reducible refine CallI.inl QA i73 rfl ?_|(with_reducible first|refine gB ?_|refine gZ (fun x hx hu=>?_)|refine gY (fun x hx=>?_)|refine gE ?_|refine QC.mk ?_ ?_|refine gS (fun h=>?_) (fun h=>?_)|refine Spl.nt ?_|refine Spl.mk (fun h=>?_) (fun h=>?_))))
    conv => whnf
    refine Qw.wk (τ := ⟨slI 14 15 16 19 (nms (rdS d) n) k ++ [(65, clo 23 24 25)], c3 d (mOf (rdS d) n s) (.fs 1 (vS (way ++ [s]))) 23 24 25 ++ (19, .cells 1 [.yld 18]) :: E1 Tryz.f31 Tryz.f111 rgL d n (.fs 1 (vS way)) v0 (tm0 (out1.map QE ++ [QE (Qa (rdS d) way n s)])), 26⟩) (Wk.enF (by (repeat (first | exact trivial | refine ai rfl ?_))) (by (repeat (first | exact trivial | refine ai (QN rfl (by with_unfolding_all exact rfl)) ?_ | refine ai (QM (by with_unfolding_all exact rfl) (by (repeat (first | exact trivial | refine ai (by with_unfolding_all exact rfl) ?_)))) ?_))) rfl) ?_
    refine Qw.introW QA QJF rfl rfl (QOg d hd v0 ⟨nms (rdS d) n, k, n, .fs 1 (vS way)⟩ (mOf (rdS d) n s) (way ++ [s]) hw2 hwn2 (out1 ++ [(Qa (rdS d) way n s)]) hlo (out1.map QE ++ [QE (Qa (rdS d) way n s)]) hmap _ ?_ ?_ ?_)
    ·intro h2
     (repeat' ((conv=>whnf);first|with_reducible refine gA ?_|(with_reducible first|refine gB ?_|refine gZ (fun x hx hu=>?_)|refine gY (fun x hx=>?_)|refine gE ?_|refine QC.mk ?_ ?_|refine gS (fun h=>?_) (fun h=>?_)|refine Spl.nt ?_|refine Spl.mk (fun h=>?_) (fun h=>?_))))
     exact ⟨(k + 1, (out1 ++ [(Qa (rdS d) way n s)]) ++ QR (rdS d) 2 (mOf (rdS d) n s) (way ++ [s])), ⟨hkl, h2, hT2 hk2⟩, by dsimp only; omega, Wk.enF (ai rfl (ai rfl (ai rfl (ai rfl (ai rfl (ai rfl (ai (QG (by first | omega | (dsimp only; omega))) trivial))))))) (by (repeat (first | exact trivial | refine ai (QN rfl (by with_unfolding_all exact rfl)) ?_ | refine ai (QM (by with_unfolding_all exact rfl) (by (repeat (first | exact trivial | refine ai (by with_unfolding_all exact rfl) ?_)))) ?_))) rfl⟩
    ·intro h2
     (repeat' ((conv=>whnf);first|with_reducible refine gA ?_|(with_reducible first|refine gB ?_|refine gZ (fun x hx hu=>?_)|refine gY (fun x hx=>?_)|refine gE ?_|refine QC.mk ?_ ?_|refine gS (fun h=>?_) (fun h=>?_)|refine Spl.nt ?_|refine Spl.mk (fun h=>?_) (fun h=>?_))))
     exact ⟨(k + 1, (out1 ++ [(Qa (rdS d) way n s)]) ++ QR (rdS d) 2 (mOf (rdS d) n s) (way ++ [s])), ⟨hkl, h2, hT2 hk2⟩, by dsimp only; omega, Wk.enF (ai rfl (ai rfl (ai rfl (ai rfl (ai rfl (ai rfl (ai (QG (by first | omega | (dsimp only; omega))) trivial))))))) (by (repeat (first | exact trivial | refine ai (QN rfl (by with_unfolding_all exact rfl)) ?_ | refine ai (QM (by with_unfolding_all exact rfl) (by (repeat (first | exact trivial | refine ai (by with_unfolding_all exact rfl) ?_)))) ?_))) rfl⟩
    ·intro h2
     (repeat' ((conv=>whnf);first|with_reducible refine gA ?_|(with_reducible first|refine gB ?_|refine gZ (fun x hx hu=>?_)|refine gY (fun x hx=>?_)|refine gE ?_|refine QC.mk ?_ ?_|refine gS (fun h=>?_) (fun h=>?_)|refine Spl.nt ?_|refine Spl.mk (fun h=>?_) (fun h=>?_))))
     exact ⟨⟨[], E1 Tryz.f31 Tryz.f111 rgD d n (.fs 1 (vS way)) v0 (tm1 ((((out1 ++ [(Qa (rdS d) way n s)]) ++ QR (rdS d) 2 (mOf (rdS d) n s) (way ++ [s])).take 64).map QE)), 19⟩, Wk.enF trivial (by (repeat (first | exact trivial | refine ai (QN rfl (by with_unfolding_all exact rfl)) ?_ | refine ai (QM (by with_unfolding_all exact rfl) (by (repeat (first | exact trivial | refine ai (by with_unfolding_all exact rfl) ?_)))) ?_))) rfl, hE2 hk2 h2⟩
   ·(repeat' ((conv=>whnf);first|with_reducible refine gA ?_|(with_reducible first|refine gB ?_|refine gZ (fun x hx hu=>?_)|refine gY (fun x hx=>?_)|refine gE ?_|refine QC.mk ?_ ?_|refine gS (fun h=>?_) (fun h=>?_)|refine Spl.nt ?_|refine Spl.mk (fun h=>?_) (fun h=>?_))))
    exact ⟨(k + 1, out1 ++ [(Qa (rdS d) way n s)]), ⟨hkl, hlo, hT3 hk2⟩, hmu, QAs (congrArg (fun O => (⟨slI 14 15 16 19 (nms (rdS d) n) (k + 1), (19, .cells 1 [.yld 18]) :: E1 Tryz.f31 Tryz.f111 rgL d n (.fs 1 (vS way)) v0 (tm0 O), 20⟩ : S)) hmap) (Wk.enF (ai rfl (ai rfl (ai rfl (ai rfl (ai rfl (ai rfl (ai (QG (by first | omega | (dsimp only; omega))) trivial))))))) (by (repeat (first | exact trivial | refine ai (QN rfl (by with_unfolding_all exact rfl)) ?_ | refine ai (QM (by with_unfolding_all exact rfl) (by (repeat (first | exact trivial | refine ai (by with_unfolding_all exact rfl) ?_)))) ?_))) rfl)⟩
 ·have hN : G .normal ⟨[], E1 Tryz.f31 Tryz.f111 rgL d n (.fs 1 (vS way)) v0 (tm0 (out1.map QE)), 19⟩ := by
   have e : out1 = out ++ QR (rdS d) 3 n way := by
    rw [← hT, List.drop_of_length_le hkl]; exact (List.append_nil _).symm
   have := hA2 (by rw [← e]; exact ho1)
   rw [← e] at this
   exact this
  (repeat' ((conv=>whnf);first|with_reducible refine gA ?_|(with_reducible first|refine gB ?_|refine gZ (fun x hx hu=>?_)|refine gY (fun x hx=>?_)|refine gE ?_|refine QC.mk ?_ ?_|refine gS (fun h=>?_) (fun h=>?_)|refine Spl.nt ?_|refine Spl.mk (fun h=>?_) (fun h=>?_))))
  exact ⟨⟨[], E1 Tryz.f31 Tryz.f111 rgL d n (.fs 1 (vS way)) v0 (tm0 (out1.map QE)), 19⟩, Wk.enF trivial (by (repeat (first | exact trivial | refine ai (QN rfl (by with_unfolding_all exact rfl)) ?_ | refine ai (QM (by with_unfolding_all exact rfl) (by (repeat (first | exact trivial | refine ai (by with_unfolding_all exact rfl) ?_)))) ?_))) rfl, hN⟩
theorem QOi (d : Option Dk) (hd : QAr d) (n : Int) (way : List (List UInt8)) (hw : way.length = 0) (hwn : ∀ s ∈ way, s.length ≤ 8) (out : List Nod) (ho : out.length ≤ 64) (O : List (List D)) (hO : O = out.map QE) (G : Exit → S → Prop)
  (hA1 : (out ++ QR (rdS d) 4 n way).length ≤ 64 → G .ret ⟨[], E0 Tryz.f31 Tryz.f111 rgL d n (.fs 1 (vS way))  (tm0 ((out ++ QR (rdS d) 4 n way).map QE)), 10⟩) (hA2 : (out ++ QR (rdS d) 4 n way).length ≤ 64 → G .normal ⟨[], E0 Tryz.f31 Tryz.f111 rgL d n (.fs 1 (vS way))  (tm0 ((out ++ QR (rdS d) 4 n way).map QE)), 10⟩) (hB : ¬ (out ++ QR (rdS d) 4 n way).length ≤ 64 → G .ret ⟨[], E0 Tryz.f31 Tryz.f111 rgD d n (.fs 1 (vS way))  (tm1 (((out ++ QR (rdS d) 4 n way).take 64).map QE)), 10⟩) :
  vc Tryz.prog ti 72 (bd Tryz.f111) (fun e υ => ∃ τ, Wk 72 υ τ ∧ G e τ) ⟨idx 0 [.yld 9, .ptr 6 0, .ptr 4 0, .ptr 5 0], E0 Tryz.f31 Tryz.f111 rgL d n (.fs 1 (vS way))  (tm0 O), 10⟩ := by
 have hwl : (vS way).length = way.length := List.length_map ..
 have hnl : (vS (nms (rdS d) n)).length = (nms (rdS d) n).length := List.length_map ..
 have hls := QCE d hd n
 have hkb := Jn (rdS d) n
 subst hO
 (repeat' ((conv=>whnf);first|with_reducible refine gA ?_|((with_reducible refine QB ?_); refine CallE.con ⟨_, hls, ?_⟩)|(with_reducible first|refine gB ?_|refine gZ (fun x hx hu=>?_)|refine gY (fun x hx=>?_)|refine gE ?_|refine QC.mk ?_ ?_|refine gS (fun h=>?_) (fun h=>?_)|refine Spl.nt ?_|refine Spl.mk (fun h=>?_) (fun h=>?_))))
 conv => whnf
 refine Qt.wk (τ := ⟨slI 4 5 6 10 (nms (rdS d) n) 0, (10, .cells 1 [.yld 9]) :: E0 Tryz.f31 Tryz.f111 rgL d n (.fs 1 (vS way))  (tm0 (out.map QE)), 11⟩) (Wk.enF (by (repeat (first | exact trivial | refine ai rfl ?_))) (by (repeat (first | exact trivial | refine ai (QN rfl (by with_unfolding_all exact rfl)) ?_ | refine ai (QM (by with_unfolding_all exact rfl) (by (repeat (first | exact trivial | refine ai (by with_unfolding_all exact rfl) ?_)))) ?_))) rfl) ?_
 refine QV QA (fun x : Nat × List Nod => x.1 ≤ (nms (rdS d) n).length ∧ x.2.length ≤ 64 ∧ x.2 ++ JK (rdS d) 3 n way ((nms (rdS d) n).drop x.1) = out ++ QR (rdS d) 4 n way) (fun x : Nat × List Nod => ⟨slI 4 5 6 10 (nms (rdS d) n) x.1, (10, .cells 1 [.yld 9]) :: E0 Tryz.f31 Tryz.f111 rgL d n (.fs 1 (vS way))  (tm0 (x.2.map QE)), 11⟩) (fun x => (nms (rdS d) n).length - x.1) (0, out) ⟨Nat.zero_le _, ho, rfl⟩ (Wk.en ⟨by (repeat (first | exact trivial | refine ai rfl ?_)), by (repeat (first | exact trivial | refine ai rfl ?_)), rfl⟩) ?_
 intro ⟨k, out1⟩ ⟨k1, ho1, hT⟩
 dsimp only at k1 ho1 hT
 have hol : (out1.map QE).length = out1.length := List.length_map ..
 rcases Nat.lt_or_ge k (nms (rdS d) n).length with hkl | hkl
 ·obtain ⟨s, hs⟩ := QX hkl
  have hx : (vS (nms (rdS d) n))[k]? = some [.st s] := by unfold vS; rw [List.getElem?_map, hs]; rfl
  have hsn := JS (XB (rdS d) n s (List.mem_of_getElem? hs))
  have hwn2 : ∀ t ∈ way ++ [s], t.length ≤ 8 := fun t ht => by
   rcases List.mem_append.1 ht with ht | ht
   ·exact hwn t ht
   ·rw [List.mem_singleton.1 ht]; exact hsn
  have hw2 : (way ++ [s]).length = 1 := by rw [List.length_append, hw]; rfl
  have hf := QCC d hd n s
  rw [QAw] at hf
  have he := Yo d hd (kOf (rdS d) n s)
  have hi := YA d hd (mOf (rdS d) n s)
  have hj := QAx (way ++ [s]) hwn2 (by omega) (by simp)
  have hda := QCK d hd (QL (rdS d) (mOf (rdS d) n s)) (Yr _ _)
  rw [Yt hs, Yq] at hT
  have hwo : vS way ++ [[.st s]] = vS (way ++ [s]) := by unfold vS; rw [List.map_append]; rfl
  have htk : (List.take (((vS way).length : Nat) : Int).toNat (vS way)).length ≤ 4 := by rw [List.length_take]; omega
  have hvl : (vS (way ++ [s])).length = 1 := by unfold vS; rw [List.length_map]; exact hw2
  have hwo2 : (vS way).take (((vS way).length : Nat) : Int).toNat ++ [[.st s]] = vS (way ++ [s]) := by rw [List.take_of_length_le (by omega)]; exact hwo
  have hmap : (out1.map QE ++ [QE (Qa (rdS d) way n s)]) = (out1 ++ [(Qa (rdS d) way n s)]).map QE := by rw [List.map_append]; rfl
  have hE : out1.length = 64 → G .ret ⟨[], E0 Tryz.f31 Tryz.f111 rgD d n (.fs 1 (vS way))  (tm1 (out1.map QE)), 10⟩ := fun h => by
   have := hB (by rw [← hT, List.length_append, List.length_cons]; omega)
   rw [← hT, List.take_left' h] at this
   exact this
  have hT2 : (QL (rdS d) (mOf (rdS d) n s)).k = 2 → ((out1 ++ [(Qa (rdS d) way n s)]) ++ QR (rdS d) 3 (mOf (rdS d) n s) (way ++ [s])) ++ JK (rdS d) 3 n way ((nms (rdS d) n).drop (k + 1)) = out ++ QR (rdS d) 4 n way := fun h => by
   rw [← hT, if_pos h]; simp only [List.append_assoc, List.cons_append, List.nil_append]
  have hT3 : ¬ (QL (rdS d) (mOf (rdS d) n s)).k = 2 → (out1 ++ [(Qa (rdS d) way n s)]) ++ JK (rdS d) 3 n way ((nms (rdS d) n).drop (k + 1)) = out ++ QR (rdS d) 4 n way := fun h => by
   rw [← hT, if_neg h]; simp only [List.append_assoc, List.cons_append, List.nil_append]
  have hE2 : (QL (rdS d) (mOf (rdS d) n s)).k = 2 → ¬ ((out1 ++ [(Qa (rdS d) way n s)]) ++ QR (rdS d) 3 (mOf (rdS d) n s) (way ++ [s])).length ≤ 64 → G .ret ⟨[], E0 Tryz.f31 Tryz.f111 rgD d n (.fs 1 (vS way))  (tm1 ((((out1 ++ [(Qa (rdS d) way n s)]) ++ QR (rdS d) 3 (mOf (rdS d) n s) (way ++ [s])).take 64).map QE)), 10⟩ := fun h h2 => by
   have := hB (by rw [← hT2 h, List.length_append]; omega)
   rw [← hT2 h, List.take_append_of_le_length (by omega)] at this
   exact this
  have hmu : (nms (rdS d) n).length - (k + 1) < (nms (rdS d) n).length - k := by omega
  clear hT hB
  (repeat' ((conv=>whnf);first|with_reducible refine gA ?_|((with_reducible refine QB ?_); first | refine CallE.con ⟨_, hf, ?_⟩ | refine CallE.con ⟨_, he, ?_⟩ | refine CallE.con ⟨_, hi, ?_⟩ | refine CallE.con ⟨_, hj, ?_⟩ | refine CallE.con ⟨_, hda, ?_⟩ | refine CallE.inl ?_) | refine Qe.mk ⟨_, hj, ?_⟩ | refine Qe.mk ⟨_, hda, ?_⟩|(with_reducible first|refine gB0 ?_|refine gZ (fun x hx hu=>?_)|refine gY (fun x hx=>?_)|refine gE ?_|refine QC.mk ?_ ?_|refine gS (fun h=>?_) (fun h=>?_)|refine Spl.nt ?_|refine Spl.mk (fun h=>?_) (fun h=>?_))))
  refine Q9.wk (τ := ⟨(9, .d (.it .i64 (mOf (rdS d) n s))) :: (10, .ptr 11 0) :: (11, .d (.fs 1 (vS (way ++ [s])))) :: slI 4 5 6 10 (nms (rdS d) n) k, (12, .tag 11 96) :: (11, .cells 6 ((Ze (QL (rdS d) (mOf (rdS d) n s))).map .d)) :: (10, .cells 1 [.yld 9]) :: E0 Tryz.f31 Tryz.f111 rgL d n (.fs 1 (vS way))  (tm0 (out1.map QE)), 13⟩) ?_ ?_
  ·exact Wk.vwL (by (repeat (first | exact trivial | refine ai (Vw.eq rfl) ?_ | refine ai (Vw.ts' hwo2) ?_))) (by (repeat (first | exact trivial | refine ai (VwO.same _) ?_))) rfl
  (repeat' ((conv=>whnf);first|with_reducible refine gA ?_|((with_reducible refine QB ?_); first | refine CallE.con ⟨_, hf, ?_⟩ | refine CallE.con ⟨_, he, ?_⟩ | refine CallE.con ⟨_, hi, ?_⟩ | refine CallE.con ⟨_, hj, ?_⟩ | refine CallE.con ⟨_, hda, ?_⟩ | refine CallE.inl ?_) | refine Qe.mk ⟨_, hj, ?_⟩ | refine Qe.mk ⟨_, hda, ?_⟩|(with_reducible first|refine gB ?_|refine gZ (fun x hx hu=>?_)|refine gY (fun x hx=>?_)|refine gE ?_|refine QC.mk ?_ ?_|refine gS (fun h=>?_) (fun h=>?_)|refine Spl.nt ?_|refine Spl.mk (fun h=>?_) (fun h=>?_))))
  refine ZD.post ?_
  refine ZD.intro QA (by with_unfolding_all exact rfl) (by with_unfolding_all exact rfl) (by with_unfolding_all exact rfl) ?_
  (repeat' ((conv=>whnf);first|with_reducible refine gA ?_|with_reducible refine ZD.intro QA (by with_unfolding_all exact rfl) (by with_unfolding_all exact rfl) (by with_unfolding_all exact rfl) ?_|(with_reducible first|refine gB ?_|refine gZ (fun x hx hu=>?_)|refine gY (fun x hx=>?_)|refine gE ?_|refine QC.mk ?_ ?_|refine gS (fun h=>?_) (fun h=>?_)|refine Spl.nt ?_|refine Spl.mk (fun h=>?_) (fun h=>?_))))
  ·refine ⟨⟨[(57, .d (.bl false))], E0 Tryz.f31 Tryz.f111 rgD d n (.fs 1 (vS way))  (tm1 (out1.map QE)), 11⟩, Wk.enF (by (repeat (first | exact trivial | refine ai rfl ?_))) (by (repeat (first | exact trivial | refine ai (QN rfl (by with_unfolding_all exact rfl)) ?_ | refine ai (QM (by with_unfolding_all exact rfl) (by (repeat (first | exact trivial | refine ai (by with_unfolding_all exact rfl) ?_)))) ?_))) rfl, ?_⟩
   (repeat' ((conv=>whnf);first|with_reducible refine gA ?_|(with_reducible first|refine gB ?_|refine gZ (fun x hx hu=>?_)|refine gY (fun x hx=>?_)|refine gE ?_|refine QC.mk ?_ ?_|refine gS (fun h=>?_) (fun h=>?_)|refine Spl.nt ?_|refine Spl.mk (fun h=>?_) (fun h=>?_))))
   exact ⟨⟨[], E0 Tryz.f31 Tryz.f111 rgD d n (.fs 1 (vS way))  (tm1 (out1.map QE)), 10⟩, Wk.enF trivial (by (repeat (first | exact trivial | refine ai (QN rfl (by with_unfolding_all exact rfl)) ?_ | refine ai (QM (by with_unfolding_all exact rfl) (by (repeat (first | exact trivial | refine ai (by with_unfolding_all exact rfl) ?_)))) ?_))) rfl, hE (by omega)⟩
  ·have hlo : (out1 ++ [(Qa (rdS d) way n s)]).length ≤ 64 := by rw [List.length_append, List.length_singleton]; omega
   refine ⟨⟨(57, .d (.bl true)) :: (9, .d (.it .i64 (mOf (rdS d) n s))) :: (10, .ptr 11 0) :: (11, .d (.fs 1 (vS (way ++ [s])))) :: slI 4 5 6 10 (nms (rdS d) n) k, (12, .tag 11 96) :: (11, .cells 6 ((Ze (QL (rdS d) (mOf (rdS d) n s))).map .d)) :: (10, .cells 1 [.yld 9]) :: E0 Tryz.f31 Tryz.f111 rgL d n (.fs 1 (vS way))  (tm0 (out1.map QE ++ [QE (Qa (rdS d) way n s)])), 13⟩, Wk.enF (by (repeat (first | exact trivial | refine ai rfl ?_))) (by (repeat (first | exact trivial | refine ai (QN rfl (by with_unfolding_all exact rfl)) ?_ | refine ai (QM (by with_unfolding_all exact rfl) (by (repeat (first | exact trivial | refine ai (by with_unfolding_all exact rfl) ?_)))) ?_))) rfl, ?_⟩
   by_cases hk2 : (QL (rdS d) (mOf (rdS d) n s)).k = 2
   ·(repeat' ((conv=>whnf);first|with_reducible refine gA ?_|((with_reducible refine QB ?_); refine CallE.inl ?_) | with_reducible refine CallI.inl QA i73 rfl ?_|(with_reducible first|refine gB ?_|refine gZ (fun x hx hu=>?_)|refine gY (fun x hx=>?_)|refine gE ?_|refine QC.mk ?_ ?_|refine gS (fun h=>?_) (fun h=>?_)|refine Spl.nt ?_|refine Spl.mk (fun h=>?_) (fun h=>?_))))
    conv => whnf
    refine Qw.wk (τ := ⟨slI 4 5 6 10 (nms (rdS d) n) k ++ [(65, clo 14 15 16)], c3 d (mOf (rdS d) n s) (.fs 1 (vS (way ++ [s]))) 14 15 16 ++ (10, .cells 1 [.yld 9]) :: E0 Tryz.f31 Tryz.f111 rgL d n (.fs 1 (vS way))  (tm0 (out1.map QE ++ [QE (Qa (rdS d) way n s)])), 17⟩) (Wk.enF (by (repeat (first | exact trivial | refine ai rfl ?_))) (by (repeat (first | exact trivial | refine ai (QN rfl (by with_unfolding_all exact rfl)) ?_ | refine ai (QM (by with_unfolding_all exact rfl) (by (repeat (first | exact trivial | refine ai (by with_unfolding_all exact rfl) ?_)))) ?_))) rfl) ?_
    refine Qw.introW QA QJF rfl rfl (QOh d hd  ⟨nms (rdS d) n, k, n, .fs 1 (vS way)⟩ (mOf (rdS d) n s) (way ++ [s]) hw2 hwn2 (out1 ++ [(Qa (rdS d) way n s)]) hlo (out1.map QE ++ [QE (Qa (rdS d) way n s)]) hmap _ ?_ ?_ ?_)
    ·intro h2
     (repeat' ((conv=>whnf);first|with_reducible refine gA ?_|(with_reducible first|refine gB ?_|refine gZ (fun x hx hu=>?_)|refine gY (fun x hx=>?_)|refine gE ?_|refine QC.mk ?_ ?_|refine gS (fun h=>?_) (fun h=>?_)|refine Spl.nt ?_|refine Spl.mk (fun h=>?_) (fun h=>?_))))
     exact ⟨(k + 1, (out1 ++ [(Qa (rdS d) way n s)]) ++ QR (rdS d) 3 (mOf (rdS d) n s) (way ++ [s])), ⟨hkl, h2, hT2 hk2⟩, by dsimp only; omega, Wk.enF (ai rfl (ai rfl (ai rfl (ai rfl (ai rfl (ai rfl (ai (QG (by first | omega | (dsimp only; omega))) trivial))))))) (by (repeat (first | exact trivial | refine ai (QN rfl (by with_unfolding_all exact rfl)) ?_ | refine ai (QM (by with_unfolding_all exact rfl) (by (repeat (first | exact trivial | refine ai (by with_unfolding_all exact rfl) ?_)))) ?_))) rfl⟩
    ·intro h2
     (repeat' ((conv=>whnf);first|with_reducible refine gA ?_|(with_reducible first|refine gB ?_|refine gZ (fun x hx hu=>?_)|refine gY (fun x hx=>?_)|refine gE ?_|refine QC.mk ?_ ?_|refine gS (fun h=>?_) (fun h=>?_)|refine Spl.nt ?_|refine Spl.mk (fun h=>?_) (fun h=>?_))))
     exact ⟨(k + 1, (out1 ++ [(Qa (rdS d) way n s)]) ++ QR (rdS d) 3 (mOf (rdS d) n s) (way ++ [s])), ⟨hkl, h2, hT2 hk2⟩, by dsimp only; omega, Wk.enF (ai rfl (ai rfl (ai rfl (ai rfl (ai rfl (ai rfl (ai (QG (by first | omega | (dsimp only; omega))) trivial))))))) (by (repeat (first | exact trivial | refine ai (QN rfl (by with_unfolding_all exact rfl)) ?_ | refine ai (QM (by with_unfolding_all exact rfl) (by (repeat (first | exact trivial | refine ai (by with_unfolding_all exact rfl) ?_)))) ?_))) rfl⟩
    ·intro h2
     (repeat' ((conv=>whnf);first|with_reducible refine gA ?_|(with_reducible first|refine gB ?_|refine gZ (fun x hx hu=>?_)|refine gY (fun x hx=>?_)|refine gE ?_|refine QC.mk ?_ ?_|refine gS (fun h=>?_) (fun h=>?_)|refine Spl.nt ?_|refine Spl.mk (fun h=>?_) (fun h=>?_))))
     exact ⟨⟨[], E0 Tryz.f31 Tryz.f111 rgD d n (.fs 1 (vS way))  (tm1 ((((out1 ++ [(Qa (rdS d) way n s)]) ++ QR (rdS d) 3 (mOf (rdS d) n s) (way ++ [s])).take 64).map QE)), 10⟩, Wk.enF trivial (by (repeat (first | exact trivial | refine ai (QN rfl (by with_unfolding_all exact rfl)) ?_ | refine ai (QM (by with_unfolding_all exact rfl) (by (repeat (first | exact trivial | refine ai (by with_unfolding_all exact rfl) ?_)))) ?_))) rfl, hE2 hk2 h2⟩
   ·(repeat' ((conv=>whnf);first|with_reducible refine gA ?_|(with_reducible first|refine gB ?_|refine gZ (fun x hx hu=>?_)|refine gY (fun x hx=>?_)|refine gE ?_|refine QC.mk ?_ ?_|refine gS (fun h=>?_) (fun h=>?_)|refine Spl.nt ?_|refine Spl.mk (fun h=>?_) (fun h=>?_))))
    exact ⟨(k + 1, out1 ++ [(Qa (rdS d) way n s)]), ⟨hkl, hlo, hT3 hk2⟩, hmu, QAs (congrArg (fun O => (⟨slI 4 5 6 10 (nms (rdS d) n) (k + 1), (10, .cells 1 [.yld 9]) :: E0 Tryz.f31 Tryz.f111 rgL d n (.fs 1 (vS way))  (tm0 O), 11⟩ : S)) hmap) (Wk.enF (ai rfl (ai rfl (ai rfl (ai rfl (ai rfl (ai rfl (ai (QG (by first | omega | (dsimp only; omega))) trivial))))))) (by (repeat (first | exact trivial | refine ai (QN rfl (by with_unfolding_all exact rfl)) ?_ | refine ai (QM (by with_unfolding_all exact rfl) (by (repeat (first | exact trivial | refine ai (by with_unfolding_all exact rfl) ?_)))) ?_))) rfl)⟩
 ·have hN : G .normal ⟨[], E0 Tryz.f31 Tryz.f111 rgL d n (.fs 1 (vS way))  (tm0 (out1.map QE)), 10⟩ := by
   have e : out1 = out ++ QR (rdS d) 4 n way := by
    rw [← hT, List.drop_of_length_le hkl]; exact (List.append_nil _).symm
   have := hA2 (by rw [← e]; exact ho1)
   rw [← e] at this
   exact this
  (repeat' ((conv=>whnf);first|with_reducible refine gA ?_|(with_reducible first|refine gB ?_|refine gZ (fun x hx hu=>?_)|refine gY (fun x hx=>?_)|refine gE ?_|refine QC.mk ?_ ?_|refine gS (fun h=>?_) (fun h=>?_)|refine Spl.nt ?_|refine Spl.mk (fun h=>?_) (fun h=>?_))))
  exact ⟨⟨[], E0 Tryz.f31 Tryz.f111 rgL d n (.fs 1 (vS way))  (tm0 (out1.map QE)), 10⟩, Wk.enF trivial (by (repeat (first | exact trivial | refine ai (QN rfl (by with_unfolding_all exact rfl)) ?_ | refine ai (QM (by with_unfolding_all exact rfl) (by (repeat (first | exact trivial | refine ai (by with_unfolding_all exact rfl) ?_)))) ?_))) rfl, hN⟩
theorem Wk.nilD {N : Nat} {σ : S} (n a b : Nat) (hn : Go.Sy.look n σ.mem = some (.cells 1 [.d (.fs a [])])) : Wk N σ ⟨σ.sl, (n, .cells 1 [.d (.fs b [])]) :: σ.mem, σ.nx⟩ := by
 refine ⟨fun κ g w0 w hst => ⟨g, ?_⟩⟩
 have on : ∀ k, On g ((n, .cells 1 [.d (.fs b [])]) :: σ.mem) k → On g σ.mem k := fun k h => by
  unfold On at h ⊢
  rw [QD] at h
  by_cases hk : k = n
  ·subst hk; rw [hn]; trivial
  ·rw [if_neg hk] at h; exact h
 refine ⟨hst.size, hst.defers, hst.sl, ⟨hst.inv.frz, fun k ob hk => ?_, fun k m hkm h h' => hst.inv.inj k m hkm (on k h) (on m h'), hst.inv.size, hst.inv.pres, fun k h => hst.inv.own k (on k h), hst.inv.f0, hst.inv.fnew, hst.inv.os, hst.inv.tape, hst.inv.output, hst.inv.dfr⟩, ?_⟩
 ·rw [QD] at hk
  by_cases hkn : k = n
  ·subst hkn
   rw [if_pos rfl] at hk
   obtain rfl := Option.some.inj hk
   obtain ⟨arr, T, e1, e2, e3, e4, e5, e6⟩ := hst.inv.obs k _ hn
   refine ⟨arr, T, e1, e2, rfl, fun j hj => ?_, fun j hj => ?_, e6⟩
   ·obtain rfl : j = 0 := by simp at hj; omega
    rfl
   ·obtain rfl : j = 0 := by simp at hj; omega
    have h := e5 0 (by simp)
    simp only [List.getElem_cons_zero] at h ⊢
    generalize arr.getD 0 undef = q at h
    cases h with | d _ _ hd => ?_
    cases hd with
    | fs0 => exact .d _ _ (.fs0 _ _ _)
    | fs _ _ _ _ _ _ _ hl =>
     obtain rfl : 0 = _ := hl
     exact .d _ _ (.fs0 _ _ _)
  ·rw [if_neg hkn] at hk; exact hst.inv.obs k ob hk
 ·have := S.ok_iff.1 hst.ok
  refine S.ok_iff.2 ⟨this.1, fun p hp => ?_⟩
  rcases List.mem_cons.1 hp with rfl | hp
  ·exact ⟨(S.ok_mem hst.ok hn).1, rfl⟩
  ·exact this.2 p hp
theorem FnC.res {P : Program} {f : Nat} {args : List AV} {r r' : AV} (h : FnC P f args r) (hp : r'.isP = true) (hc : ∀ g v, AVR g r v → AVR g r' v) : FnC P f args r' := ⟨hp, fun g w vs a b c d => by
 rcases h.run g w vs a b c d with ⟨h1, h2⟩ | ⟨v, w', h1, v', g', h2, h3, h4⟩
 ·exact .inl ⟨h1, h2.mono fun e w' ⟨v, g', q1, q2, q3⟩ => ⟨v, g', q1, hc _ _ q2, q3⟩⟩
 ·exact .inr ⟨v, w', h1, v', g', h2, hc _ _ h3, h4⟩⟩
theorem QMv {g : Gh} {a b : Nat} {x : D} {v : Value} (h : AVR g (.tup [.d (.fs a []), .d x]) v) : AVR g (.tup [.d (.fs b []), .d x]) v := by
 cases h with | tup _ vs h1 h2 => ?_
 refine .tup _ _ h1 fun j hj => ?_
 have := h2 j hj
 match j, hj with
 | 0, hj =>
  simp only [List.getElem_cons_zero] at this ⊢
  generalize vs.getD 0 undef = q at this
  cases this with | d _ _ hd => ?_
  cases hd with
  | fs0 => exact .d _ _ (.fs0 _ _ _)
  | fs _ _ _ _ _ _ _ hl =>
   obtain rfl : 0 = _ := hl
   exact .d _ _ (.fs0 _ _ _)
 | 1, hj => exact this
theorem QNt {L : List Nod} (h : L.length ≤ 64) : AV.tup [.d (.fs 3 (L.map QE)), .d (.bl true)] = AV.tup [.d (.fs 3 ((L.take 64).map QE)), .d (.bl (decide (L.length ≤ 64)))] := by rw [List.take_of_length_le h, decide_eq_true h]
theorem QOj {L : List Nod} (h : ¬ L.length ≤ 64) : AV.tup [.d (.fs 3 ((L.take 64).map QE)), .d (.bl false)] = AV.tup [.d (.fs 3 ((L.take 64).map QE)), .d (.bl (decide (L.length ≤ 64)))] := by rw [decide_eq_false h]
theorem QLc (d : Option Dk) (hd : QAr d) : FnC Tryz.prog 31 [.d (Zc d)] (QMn (Zo (rdS d))) := by
 have hi := YA d hd 0
 unfold Zo
 by_cases hk : (QL (rdS d) 0).k = 2
 ·rw [if_pos hk]
  unfold Xz QMn
  refine FnC.intro QA Tryz.func31 rfl Tryz.ntmps31 Tryz.call31 rfl (bll rfl) rfl ?_
  (repeat' ((conv=>whnf);first|with_reducible refine gA ?_|((with_reducible refine QB ?_); first | refine CallE.con ⟨_, hi, ?_⟩ | refine CallE.inl ?_) | with_reducible refine CallI.inl QA i73 rfl ?_|(with_reducible first|refine gB ?_|refine gZ (fun x hx hu=>?_)|refine gY (fun x hx=>?_)|refine gE ?_|refine QC.mk ?_ ?_|refine gS (fun h=>?_) (fun h=>?_)|refine Spl.nt ?_|refine Spl.mk (fun h=>?_) (fun h=>?_))))
  conv => whnf
  refine Qw.wk (Wk.trans (Wk.trans (Wk.nlTs 2 0 1 3 115 (by with_unfolding_all exact rfl) (by with_unfolding_all exact rfl)) (Wk.nilD 6 0 1 (by with_unfolding_all exact rfl))) (Wk.enF (τ := ⟨[(2, .ptr 0 0), (3, .ptr 1 0), (4, .ptr 2 0), (11, clo 4 5 6)], c3 d 0 (.fs 1 (vS [])) 4 5 6 ++ tm0 [], 8⟩) (by (repeat (first | exact trivial | refine ai rfl ?_))) (by (repeat (first | exact trivial | refine ai (QN rfl (by with_unfolding_all exact rfl)) ?_ | refine ai (QM (by with_unfolding_all exact rfl) (by (repeat (first | exact trivial | refine ai (by with_unfolding_all exact rfl) ?_)))) ?_))) rfl)) ?_
  refine Qw.introW QA QJF rfl rfl (QOi d hd 0 [] rfl (fun s hs => by cases hs) [] (Nat.zero_le _) [] rfl _ ?_ ?_ ?_)
  ·intro h2
   (repeat' ((conv=>whnf);first|with_reducible refine gA ?_|(with_reducible first|refine gB ?_|refine gZ (fun x hx hu=>?_)|refine gY (fun x hx=>?_)|refine gE ?_|refine QC.mk ?_ ?_|refine gS (fun h=>?_) (fun h=>?_)|refine Spl.nt ?_|refine Spl.mk (fun h=>?_) (fun h=>?_))))
   exact QNt h2
  ·intro h2
   (repeat' ((conv=>whnf);first|with_reducible refine gA ?_|(with_reducible first|refine gB ?_|refine gZ (fun x hx hu=>?_)|refine gY (fun x hx=>?_)|refine gE ?_|refine QC.mk ?_ ?_|refine gS (fun h=>?_) (fun h=>?_)|refine Spl.nt ?_|refine Spl.mk (fun h=>?_) (fun h=>?_))))
   exact QNt h2
  ·intro h2
   (repeat' ((conv=>whnf);first|with_reducible refine gA ?_|(with_reducible first|refine gB ?_|refine gZ (fun x hx hu=>?_)|refine gY (fun x hx=>?_)|refine gE ?_|refine QC.mk ?_ ?_|refine gS (fun h=>?_) (fun h=>?_)|refine Spl.nt ?_|refine Spl.mk (fun h=>?_) (fun h=>?_))))
   exact QOj h2
 ·rw [if_neg hk]
  refine FnC.res (r := .tup [.d (.fs 0 []), .d (.bl true)]) ?_ rfl fun g v => QMv
  refine FnC.intro QA Tryz.func31 rfl Tryz.ntmps31 Tryz.call31 rfl (bll rfl) rfl ?_
  (repeat' ((conv=>whnf);first|with_reducible refine gA ?_|((with_reducible refine QB ?_); refine CallE.con ⟨_, hi, ?_⟩)|(with_reducible first|refine gB ?_|refine gZ (fun x hx hu=>?_)|refine gY (fun x hx=>?_)|refine gE ?_|refine QC.mk ?_ ?_|refine gS (fun h=>?_) (fun h=>?_)|refine Spl.nt ?_|refine Spl.mk (fun h=>?_) (fun h=>?_))))
  exact rfl
theorem QFm (l : List (List UInt8)) (hl : ∀ s ∈ l, s.length ≤ 8) (h4 : l.length ≤ 4) : FnC Tryz.prog 138 [.d (.fs 1 (vS l))] (.d (.st (Xf l))) := by
 have := QAN l hl
 exact QGq l (by omega) (by omega)
def QOk : Tr := (.cons 0 (.cons 1 (.cons 2 (.cons 3 (.cons 4 (.cons 5 (.cons 6 .nil .nil) .nil) .nil) .nil) .nil) (.cons 2 (.cons 1 (.cons 3 (.cons 4 (.cons 5 (.cons 6 .nil .nil) .nil) .nil) .nil) (.cons 3 (.cons 1 (.cons 4 (.cons 5 (.cons 6 .nil .nil) .nil) .nil) (.cons 4 (.cons 1 (.cons 5 (.cons 6 .nil .nil) .nil) .nil) .nil)) .nil)) .nil)) (.cons 2 (.cons 0 (.cons 1 (.cons 3 (.cons 4 (.cons 5 (.cons 6 .nil .nil) .nil) .nil) .nil) (.cons 3 (.cons 1 (.cons 4 (.cons 5 (.cons 6 .nil .nil) .nil) .nil) (.cons 4 (.cons 1 (.cons 5 (.cons 6 .nil .nil) .nil) .nil) .nil)) .nil)) (.cons 3 (.cons 0 (.cons 1 (.cons 4 (.cons 5 (.cons 6 .nil .nil) .nil) .nil) (.cons 4 (.cons 1 (.cons 5 (.cons 6 .nil .nil) .nil) .nil) .nil)) (.cons 4 (.cons 0 (.cons 1 (.cons 5 (.cons 6 .nil .nil) .nil) .nil) .nil) .nil)) .nil)) .nil))
theorem QJ1 {q r : List Nod × Bool} (h : q = r) : AV.tup [.ts 3 (q.1.map QE) 0, .d (.bl q.2)] = AV.tup [.ts 3 (r.1.map QE) 0, .d (.bl r.2)] := by rw [h]
theorem QDt {L R : List Nod} (h : 64 ≤ L.length) (h2 : 64 < (L ++ R).length) : Xz (L ++ R) = (L.take 64, false) := by unfold Xz; rw [List.take_append_of_le_length h, decide_eq_false (by omega)]
def riA (m : List (List UInt8)) (n : Int) (way N : List (List UInt8)) (i : Nat) (O : List (List D)) : S := ⟨[(0, .d (Yh m)), (1, .d (.it .i64 n)), (2, .d (.fs 1 (vS way))), (3, .ts 3 O 0), (10, .d (.fs 1 (vS N))), (11, .d (.it .i64 (i : Nat)))], [(0, .tail 115 true), (1, .frame 2 [])], 3⟩
theorem QFn (m : List (List UInt8)) (hm : Z7 m) : ∀ (j : Nat) (n : Int) (way : List (List UInt8)) (out : List Nod), way.length + j = 4 → (∀ s ∈ way, s.length ≤ 8) → out.length ≤ 64 →
  FnH Tryz.prog 105 [.d (Yh m), .d (.it .i64 n), .d (.fs 1 (vS way)), .ts 3 (out.map QE) 0] [(0, .tail 115 true)] 1 [] (.tup [.ts 3 ((Xz (out ++ QR (imS m) j n way)).1.map QE) 0, .d (.bl (Xz (out ++ QR (imS m) j n way)).2)]) [(0, .tail 115 true)] 1
 | 0, n, way, out, hw, hwn, ho => by
  have hls := QCo m hm n
  have hwl : (vS way).length = way.length := List.length_map ..
  have hT : Xz (out ++ QR (imS m) 0 n way) = (out, true) := by
   show Xz (out ++ []) = _
   rw [List.append_nil]; unfold Xz; rw [List.take_of_length_le ho, decide_eq_true ho]
  rw [hT]
  refine FnH.intro QA Tryz.func105 rfl Tryz.ntmps105 Tryz.call105 rfl rfl rfl (Nat.le_refl _) rfl rfl rfl rfl rfl (fun T => ?_)
  (repeat' ((conv=>whnf);first|with_reducible refine gA ?_|((with_reducible refine QB ?_); refine CallE.con ⟨_, hls, ?_⟩)|(with_reducible first|refine gB ?_|refine gZ (fun x hx hu=>?_)|refine gY (fun x hx=>?_)|refine gE ?_|refine QC.mk ?_ ?_|refine gS (fun h=>?_) (fun h=>?_)|refine Spl.nt ?_|refine Spl.mk (fun h=>?_) (fun h=>?_))))
  conv => whnf
  refine Qt.unroll QA 1 ?_
  (repeat' ((conv=>whnf);first|with_reducible refine gA ?_|(with_reducible first|refine gB ?_|refine gZ (fun x hx hu=>?_)|refine gY (fun x hx=>?_)|refine gE ?_|refine QC.mk ?_ ?_|refine gS (fun h=>?_) (fun h=>?_)|refine Spl.nt ?_|refine Spl.mk (fun h=>?_) (fun h=>?_))))
  all_goals exact Y4 rfl (ai rfl trivial) (ai rfl trivial)
 | j + 1, n, way, out, hw, hwn, ho => by
  have ih := QFn m hm j
  have hls := QCo m hm n
  have hwl : (vS way).length = way.length := List.length_map ..
  refine FnH.intro QA Tryz.func105 rfl Tryz.ntmps105 Tryz.call105 rfl rfl rfl (Nat.le_refl _) rfl rfl rfl rfl rfl (fun T => ?_)
  (repeat' ((conv=>whnf);first|with_reducible refine gA ?_|((with_reducible refine QB ?_); refine CallE.con ⟨_, hls, ?_⟩)|(with_reducible first|refine gB ?_|refine gZ (fun x hx hu=>?_)|refine gY (fun x hx=>?_)|refine gE ?_|refine QC.mk ?_ ?_|refine gS (fun h=>?_) (fun h=>?_)|refine Spl.nt ?_|refine Spl.mk (fun h=>?_) (fun h=>?_))))
  conv => whnf
  have hnl : (vS (nms (imS m) n)).length = (nms (imS m) n).length := List.length_map ..
  have hkb := Jn (imS m) n
  generalize hTT : out ++ QR (imS m) (j + 1) n way = TT
  refine QV QA (fun x : Nat × List Nod => x.1 ≤ (nms (imS m) n).length ∧ x.2.length ≤ 64 ∧ x.2 ++ JK (imS m) j n way ((nms (imS m) n).drop x.1) = TT) (fun x => riA m n way (nms (imS m) n) x.1 (x.2.map QE)) (fun x => (nms (imS m) n).length - x.1) (0, out) ⟨Nat.zero_le _, ho, hTT⟩ (Wk.en ⟨by (repeat (first | exact trivial | refine ai rfl ?_)), by (repeat (first | exact trivial | refine ai rfl ?_)), rfl⟩) ?_
  intro ⟨i, out1⟩ ⟨k1, ho1, hT⟩
  dsimp only at k1 ho1 hT
  have hol : (out1.map QE).length = out1.length := List.length_map ..
  rcases Nat.lt_or_ge i (nms (imS m) n).length with hkl | hkl
  ·obtain ⟨s, hs⟩ := QX hkl
   have hx : (vS (nms (imS m) n))[i]? = some [.st s] := by unfold vS; rw [List.getElem?_map, hs]; rfl
   have hsn := JS (XB (imS m) n s (List.mem_of_getElem? hs))
   have hwn2 : ∀ t ∈ way ++ [s], t.length ≤ 8 := fun t ht => by
    rcases List.mem_append.1 ht with ht | ht
    ·exact hwn t ht
    ·rw [List.mem_singleton.1 ht]; exact hsn
   have hw2 : (way ++ [s]).length + j = 4 := by rw [List.length_append, List.length_singleton]; omega
   have hf := QG2 m hm n s
   rw [QAw] at hf
   have he := YY m hm (kOf (imS m) n s)
   have hi := JQ m hm (mOf (imS m) n s)
   have hj := QFm (way ++ [s]) hwn2 (by omega)
   have hda := QG3 m hm (QL (imS m) (mOf (imS m) n s)) (Yr _ _)
   rw [Yt hs, Yq] at hT
   have hwo : vS way ++ [[.st s]] = vS (way ++ [s]) := by unfold vS; rw [List.map_append]; rfl
   have hvl : (vS (way ++ [s])).length ≤ 4 := by unfold vS; rw [List.length_map]; omega
   have hmap : (out1.map QE ++ [QE (Qa (imS m) way n s)]) = (out1 ++ [(Qa (imS m) way n s)]).map QE := by rw [List.map_append]; rfl
   have hE : out1.length = 64 → (out1, false) = Xz TT := fun h => by
    rw [← hT, QDt (by omega) (by rw [List.length_append, List.length_cons]; omega), List.take_of_length_le (by omega)]
   have hT2 : (QL (imS m) (mOf (imS m) n s)).k = 2 → ((out1 ++ [(Qa (imS m) way n s)]) ++ QR (imS m) j (mOf (imS m) n s) (way ++ [s])) ++ JK (imS m) j n way ((nms (imS m) n).drop (i + 1)) = TT := fun h => by
    rw [← hT, if_pos h]; simp only [List.append_assoc, List.cons_append, List.nil_append]
   have hT3 : ¬ (QL (imS m) (mOf (imS m) n s)).k = 2 → (out1 ++ [(Qa (imS m) way n s)]) ++ JK (imS m) j n way ((nms (imS m) n).drop (i + 1)) = TT := fun h => by
    rw [← hT, if_neg h]; simp only [List.append_assoc, List.cons_append, List.nil_append]
   have hE2 : (QL (imS m) (mOf (imS m) n s)).k = 2 → ¬ ((out1 ++ [(Qa (imS m) way n s)]) ++ QR (imS m) j (mOf (imS m) n s) (way ++ [s])).length ≤ 64 → (((out1 ++ [(Qa (imS m) way n s)]) ++ QR (imS m) j (mOf (imS m) n s) (way ++ [s])).take 64, false) = Xz TT := fun h h2 => by
    rw [← hT2 h, QDt (by omega) (by rw [List.length_append]; omega)]
   have hmu : (nms (imS m) n).length - (i + 1) < (nms (imS m) n).length - i := by omega
   clear hT
   (repeat' ((conv=>whnf);first|with_reducible refine gA ?_|((with_reducible refine QB ?_); first | refine CallE.con ⟨_, hf, ?_⟩ | refine CallE.con ⟨_, he, ?_⟩ | refine CallE.con ⟨_, hi, ?_⟩)|(with_reducible first|refine gB0 ?_|refine gZ (fun x hx hu=>?_)|refine gY (fun x hx=>?_)|refine gE ?_|refine QC.mk ?_ ?_|refine gS (fun h=>?_) (fun h=>?_)|refine Spl.nt ?_|refine Spl.mk (fun h=>?_) (fun h=>?_))))
   conv => whnf
   refine Q9.join ⟨[(0, .d (Yh m)), (1, .d (.it .i64 n)), (2, .d (.fs 1 (vS way))), (3, .ts 3 (out1.map QE) 0), (10, .d (.fs 1 (vS (nms (imS m) n)))), (11, .d (.it .i64 (i : Nat))), (14, .d (.it .i64 (mOf (imS m) n s))), (15, .ptr 3 0), (16, .d (.fs 1 (vS (way ++ [s]))))], [(0, .tail 115 true), (1, .frame 2 []), (3, .cells 6 ((Ze (QL (imS m) (mOf (imS m) n s))).map .d)), (4, .tag 3 96)], 5⟩ (Zz QA mixed [1, 2, 2] QOk (by decide +kernel) ?_) ?_
   ·(repeat' ((conv=>whnf);first|with_reducible refine gA ?_|with_reducible refine Br.mk ?_ ?_ | with_reducible exact trivial|(with_reducible first|refine gB ?_|refine gZ (fun x hx hu=>?_)|refine gY (fun x hx=>?_)|refine gE ?_|refine QC.mk ?_ ?_|refine gS (fun h=>?_) (fun h=>?_)|refine Spl.nt ?_|refine Spl.mk (fun h=>?_) (fun h=>?_))))
    all_goals exact Wk.vwL (by (repeat (first | exact trivial | refine ai (Vw.eq rfl) ?_ | refine ai (Vw.ts' hwo) ?_))) (by (repeat (first | exact trivial | refine ai (VwO.same _) ?_))) rfl
   by_cases hk2 : (QL (imS m) (mOf (imS m) n s)).k = 2
   ·by_cases hle : ((out1 ++ [(Qa (imS m) way n s)]) ++ QR (imS m) j (mOf (imS m) n s) (way ++ [s])).length ≤ 64
    ·have hin := fun hlo => ih (mOf (imS m) n s) (way ++ [s]) (out1 ++ [(Qa (imS m) way n s)]) hw2 hwn2 hlo
     rw [← hmap, show Xz ((out1 ++ [(Qa (imS m) way n s)]) ++ QR (imS m) j (mOf (imS m) n s) (way ++ [s])) = ((out1 ++ [(Qa (imS m) way n s)]) ++ QR (imS m) j (mOf (imS m) n s) (way ++ [s]), true) by unfold Xz; rw [List.take_of_length_le hle, decide_eq_true hle]] at hin
     (repeat' ((conv=>whnf);first|with_reducible refine gA ?_|((with_reducible refine QB ?_); first | refine CallE.con ⟨_, hj, ?_⟩ | refine CallE.con ⟨_, hda, ?_⟩ | refine CallE.inl ?_) | refine Qe.mk ⟨_, hj, ?_⟩ | refine Qe.mk ⟨_, hda, ?_⟩ | refine CallI.byH (hin (by rw [List.length_append, List.length_singleton]; omega)) [0] (by with_unfolding_all exact rfl) ⟨rfl, by decide, by with_unfolding_all exact rfl⟩ (ai rfl trivial) rfl rfl ?_|(with_reducible first|refine gB ?_|refine gZ (fun x hx hu=>?_)|refine gY (fun x hx=>?_)|refine gE ?_|refine QC.mk ?_ ?_|refine gS (fun h=>?_) (fun h=>?_)|refine Spl.nt ?_|refine Spl.mk (fun h=>?_) (fun h=>?_))))
     ·exact Y4 (QJ1 (hE (by omega))) (ai rfl trivial) (ai rfl trivial)
     ·exact ⟨(i + 1, (out1 ++ [(Qa (imS m) way n s)]) ++ QR (imS m) j (mOf (imS m) n s) (way ++ [s])), ⟨hkl, hle, hT2 hk2⟩, hmu, Wk.enF (ai rfl (ai rfl (ai rfl (ai rfl (ai rfl (ai (QG (by first | omega | (dsimp only; omega))) trivial)))))) (by (repeat (first | exact trivial | refine ai (QN rfl (by with_unfolding_all exact rfl)) ?_ | refine ai (QM (by with_unfolding_all exact rfl) (by (repeat (first | exact trivial | refine ai (by with_unfolding_all exact rfl) ?_)))) ?_))) rfl⟩
    ·have hin := fun hlo => ih (mOf (imS m) n s) (way ++ [s]) (out1 ++ [(Qa (imS m) way n s)]) hw2 hwn2 hlo
     rw [← hmap, show Xz ((out1 ++ [(Qa (imS m) way n s)]) ++ QR (imS m) j (mOf (imS m) n s) (way ++ [s])) = (((out1 ++ [(Qa (imS m) way n s)]) ++ QR (imS m) j (mOf (imS m) n s) (way ++ [s])).take 64, false) by unfold Xz; rw [decide_eq_false hle]] at hin
     (repeat' ((conv=>whnf);first|with_reducible refine gA ?_|((with_reducible refine QB ?_); first | refine CallE.con ⟨_, hj, ?_⟩ | refine CallE.con ⟨_, hda, ?_⟩ | refine CallE.inl ?_) | refine Qe.mk ⟨_, hj, ?_⟩ | refine Qe.mk ⟨_, hda, ?_⟩ | refine CallI.byH (hin (by rw [List.length_append, List.length_singleton]; omega)) [0] (by with_unfolding_all exact rfl) ⟨rfl, by decide, by with_unfolding_all exact rfl⟩ (ai rfl trivial) rfl rfl ?_|(with_reducible first|refine gB ?_|refine gZ (fun x hx hu=>?_)|refine gY (fun x hx=>?_)|refine gE ?_|refine QC.mk ?_ ?_|refine gS (fun h=>?_) (fun h=>?_)|refine Spl.nt ?_|refine Spl.mk (fun h=>?_) (fun h=>?_))))
     ·exact Y4 (QJ1 (hE (by omega))) (ai rfl trivial) (ai rfl trivial)
     ·exact Y4 (QJ1 (hE2 hk2 hle)) (ai rfl trivial) (ai rfl trivial)
   ·(repeat' ((conv=>whnf);first|with_reducible refine gA ?_|((with_reducible refine QB ?_); first | refine CallE.con ⟨_, hj, ?_⟩ | refine CallE.con ⟨_, hda, ?_⟩ | refine CallE.inl ?_) | refine Qe.mk ⟨_, hj, ?_⟩ | refine Qe.mk ⟨_, hda, ?_⟩|(with_reducible first|refine gB ?_|refine gZ (fun x hx hu=>?_)|refine gY (fun x hx=>?_)|refine gE ?_|refine QC.mk ?_ ?_|refine gS (fun h=>?_) (fun h=>?_)|refine Spl.nt ?_|refine Spl.mk (fun h=>?_) (fun h=>?_))))
    ·exact Y4 (QJ1 (hE (by omega))) (ai rfl trivial) (ai rfl trivial)
    ·have hlo : (out1 ++ [(Qa (imS m) way n s)]).length ≤ 64 := by rw [List.length_append, List.length_singleton]; omega
     exact ⟨(i + 1, out1 ++ [(Qa (imS m) way n s)]), ⟨hkl, hlo, hT3 hk2⟩, hmu, QAs (congrArg (fun O => riA m n way (nms (imS m) n) (i + 1) O) hmap) (Wk.enF (ai rfl (ai rfl (ai rfl (ai rfl (ai rfl (ai (QG (by first | omega | (dsimp only; omega))) trivial)))))) (by (repeat (first | exact trivial | refine ai (QN rfl (by with_unfolding_all exact rfl)) ?_ | refine ai (QM (by with_unfolding_all exact rfl) (by (repeat (first | exact trivial | refine ai (by with_unfolding_all exact rfl) ?_)))) ?_))) rfl)⟩
  ·have hN : (out1, true) = Xz TT := by
    have e : out1 = TT := by
     rw [← hT, List.drop_of_length_le hkl]; exact (List.append_nil _).symm
    rw [← e]; unfold Xz; rw [List.take_of_length_le ho1, decide_eq_true ho1]
   (repeat' ((conv=>whnf);first|with_reducible refine gA ?_|(with_reducible first|refine gB ?_|refine gZ (fun x hx hu=>?_)|refine gY (fun x hx=>?_)|refine gE ?_|refine QC.mk ?_ ?_|refine gS (fun h=>?_) (fun h=>?_)|refine Spl.nt ?_|refine Spl.mk (fun h=>?_) (fun h=>?_))))
   exact Y4 (QJ1 hN) (ai rfl trivial) (ai rfl trivial)
end Go.Proofs.YthknbpijaoljgaaGreatDoor
