/- Contracts of the functions that the law reaches, and the law. Conditions: none. -/
import Derived.Test.YthknbpijaoljgaaGreatDoorKA
import Derived.Test.YthknbpijaoljgaaGreatDoorSD
set_option maxRecDepth 100000
set_option linter.all false
namespace Go.Proofs.YthknbpijaoljgaaGreatDoor
open Go.Sy
def mntP (m : List (List UInt8)) : Prop := m.length = 65 ∧ imS m 0 = superS ∧ inoB (imS m 1) ∧ (inoOf (imS m 1)).k = 2
instance (m : List (List UInt8)) : Decidable (mntP m) := by unfold mntP; infer_instance
end Go.Proofs.YthknbpijaoljgaaGreatDoor
namespace Go.Proofs.YthknbpijaoljgaaGreatDoor
open Go.Sy
def sec32 (g : Nat → UInt8) : List UInt8 := [g 0, g 1, g 2, g 3, g 4, g 5, g 6, g 7, g 8, g 9, g 10, g 11, g 12, g 13, g 14, g 15, g 16, g 17, g 18, g 19, g 20, g 21, g 22, g 23, g 24, g 25, g 26, g 27, g 28, g 29, g 30, g 31]
theorem is32 {s : List UInt8} (h : s.length = 32) : ∃ g, s = sec32 g := by
 refine ⟨fun i => s.getD i 0, ?_⟩
 refine List.ext_getElem (by rw [h]; rfl) fun i h1 h2 => ?_
 have h3 : sec32 (fun i => s.getD i 0) = (List.range 32).map (fun i => s.getD i 0) := rfl
 simp only [h3, List.getElem_map, List.getElem_range]
 rw [List.getD_eq_getElem?_getD, List.getElem?_eq_getElem h1]; rfl
def encEv (w : Wr) : List D := [.it .i64 1] ++ encW w ++ [.fs 2 []]
def okW (n : Nat) (w : Wr) : Bool := decide (0 ≤ w.a ∧ w.a < n)
def wts (n : Nat) (ws : List Wr) : List Wr := (ws.filter (okW n)).map fun w => { w with e := 0 }
def dskOf (m : List (List UInt8)) (ws : List Wr) : Option Dk := if 1 ≤ m.length ∧ m.length ≤ 65 then some ⟨ws.length, m, wts m.length ws, (wts m.length ws).map encEv, 0⟩ else none
def WsOK (ws : List Wr) : Prop := ∀ w ∈ ws, w.s.length = 32
end Go.Proofs.YthknbpijaoljgaaGreatDoor
namespace Go.Proofs.YthknbpijaoljgaaGreatDoor
open Go.Sy
def imgD (d : Option Dk) : List (List UInt8) := match d with
 | none => []
 | some dk => (List.range dk.safe.length).map fun k : Nat => rdS d (k : Nat)
theorem vx_eq {sz n i a b : Nat} (h : a = b) : AV.vx sz n i a = AV.vx sz n i b := by rw [h]
theorem vec_eq {t sz : Nat} {a b : List (List D)} {f : Bool} (h : a = b) : Ob.vec t sz a f = Ob.vec t sz b f := by rw [h]
theorem set_enc {L : List (List UInt8)} {s : List UInt8} {j k : Nat} (hj : j = k) (hk : k < L.length) : (L.map encS).take j ++ [encS s] ++ (L.map encS).drop (j + 1) = (L.set k s).map encS := by
 subst hj
 rw [List.set_eq_take_append_cons_drop, if_pos hk, List.map_append, List.map_cons, List.map_take, List.map_drop, List.append_assoc]; rfl
def putW (m : List (List UInt8)) (w : Wr) : List (List UInt8) := if 0 ≤ w.a ∧ w.a < m.length then m.set w.a.toNat w.s else m
theorem putW_len (m : List (List UInt8)) (w : Wr) : (putW m w).length = m.length := by unfold putW; split <;> simp
end Go.Proofs.YthknbpijaoljgaaGreatDoor
namespace Go.Proofs.YthknbpijaoljgaaGreatDoor
open Go.Sy
def stdP (f : Int → List UInt8) (p : Int) (k : Nat) : Prop := (entAt f k).u = true ∧ (entAt f k).p = p ∧ (inoAt f (entAt f k).t).k ≠ 0
instance (f : Int → List UInt8) (p : Int) (k : Nat) : Decidable (stdP f p k) := by unfold stdP; infer_instance
def fndP (f : Int → List UInt8) (p : Int) (s : List UInt8) (k : Nat) : Prop := stdP f p k ∧ (entAt f k).n = s
instance (f : Int → List UInt8) (p : Int) (s : List UInt8) (k : Nat) : Decidable (fndP f p s k) := by unfold fndP; infer_instance
def fndK (f : Int → List UInt8) (p : Int) (s : List UInt8) : Option Nat := (List.range 24).find? fun k => decide (fndP f p s k)
def fndV (o : Option Nat) : AV := match o with
 | some k => .tup [.d (.it .i64 (k : Nat)), .d (.bl true)]
 | none => .tup [.d (.it .i64 0), .d (.bl false)]
theorem fndK_some {f : Int → List UInt8} {p : Int} {s : List UInt8} {k : Nat} (hk : k < 24) (h : fndP f p s k) (hn : ∀ j : Nat, j < k → ¬ fndP f p s j) : fndK f p s = some k := by
 unfold fndK
 refine List.find?_eq_some_iff_getElem.2 ⟨decide_eq_true h, k, by simpa using hk, by simp, fun j hj => ?_⟩
 simp only [List.getElem_range]
 simpa using hn j hj
theorem fndK_none {f : Int → List UInt8} {p : Int} {s : List UInt8} (hn : ∀ j : Nat, j < 24 → ¬ fndP f p s j) : fndK f p s = none := by
 unfold fndK
 rw [List.find?_eq_none]
 intro j hj
 simpa using hn j (List.mem_range.1 hj)
def fdA (F1 F2 : Func) (d : Option Dk) (p : Int) (s : List UInt8) (k : Nat) : S := ⟨[(0, .yld 12), (1, .ptr 10 0), (5, .d (.it .i64 (k : Nat)))],
  [(12, rgL 11 F1), (11, .frame 30 [(1, .ptr 4 0), (2, .ptr 5 0), (3, .ptr 8 0)]), (10, .cells 1 [.d (encD d)]), (8, .cells 1 [.yld 7]), (7, rgL 6 F2), (6, .frame 21 [(5, .ptr 0 0), (6, .ptr 1 0), (7, .ptr 2 0)]),
   (5, .cells 1 [.d (.it .i64 p)]), (4, .cells 1 [.d (encD d)]), (2, .cells 1 [.d (.bl false)]), (1, .cells 1 [.d (.it .i64 0)]), (0, .cells 1 [.d (.st s)])], 13⟩
set_option maxHeartbeats 8000000 in
theorem find_ok (d : Option Dk) (hd : DkOK d) (p : Int) (s : List UInt8) : FnC Tryz.prog 113 [.d (encD d), .d (.it .i64 p), .d (.st s)] (fndV (fndK (rdS d) p s)) := by
 have he := fun k => entry_ok d hd k
 generalize hR : fndV (fndK (rdS d) p s) = R
 have hRP : R.isP = true := by rw [← hR]; unfold fndV; split <;> rfl
 refine FnC.intro ti_ok Tryz.func113 rfl Tryz.ntmps113 Tryz.call113 rfl (Nat.le_of_ble_eq_true rfl) hRP ?_
 (repeat' ((conv=>whnf);first|with_reducible refine gA ?_|((with_reducible refine callE_id ?_); refine CallE.inl ?_) | with_reducible refine CallI.inl ti_ok i141 rfl ?_|(with_reducible first|refine gB ?_|refine gZ (fun x hx hu=>?_)|refine gY (fun x hx=>?_)|refine gE ?_|refine Both.mk ?_ ?_|refine gS (fun h=>?_) (fun h=>?_)|refine Spl.nt ?_|refine Spl.mk (fun h=>?_) (fun h=>?_))))
 refine RangeS.intro ti_ok i170 rfl rfl ?_
 (repeat' ((conv=>whnf);first|with_reducible refine gA ?_|((with_reducible refine callE_id ?_); refine CallE.inl ?_) | with_reducible refine CallI.inl ti_ok i121 rfl ?_|(with_reducible first|refine gB ?_|refine gZ (fun x hx hu=>?_)|refine gY (fun x hx=>?_)|refine gE ?_|refine Both.mk ?_ ?_|refine gS (fun h=>?_) (fun h=>?_)|refine Spl.nt ?_|refine Spl.mk (fun h=>?_) (fun h=>?_))))
 refine RangeS.intro ti_ok i153 rfl rfl ?_
 (repeat' ((conv=>whnf);first|with_reducible refine gA ?_|(with_reducible first|refine gB ?_|refine gZ (fun x hx hu=>?_)|refine gY (fun x hx=>?_)|refine gE ?_|refine Both.mk ?_ ?_|refine gS (fun h=>?_) (fun h=>?_)|refine Spl.nt ?_|refine Spl.mk (fun h=>?_) (fun h=>?_))))
 conv => whnf
 refine LoopS.wk (τ := fdA Tryz.f170 Tryz.f113 d p s 0) (Wk.enF (And.intro rfl (And.intro rfl (And.intro rfl trivial))) (by (repeat (first | exact trivial | refine And.intro (obw_eq rfl (by with_unfolding_all exact rfl)) ?_ | refine And.intro (obw_fr (by with_unfolding_all exact rfl) (by (repeat (first | exact trivial | refine And.intro (by with_unfolding_all exact rfl) ?_)))) ?_))) rfl) ?_
 refine loop_ruleW ti_ok (fun k : Nat => k ≤ 24 ∧ ∀ j : Nat, j < k → ¬ fndP (rdS d) p s j) (fdA Tryz.f170 Tryz.f113 d p s) (fun k => 24 - k) 0 ⟨Nat.zero_le _, fun j hj => by omega⟩ (Wk.en ⟨And.intro rfl (And.intro rfl (And.intro rfl trivial)), (by (repeat (first | exact trivial | refine And.intro rfl ?_))), rfl⟩) ?_
 intro k hk0
 have k1 := hk0.1
 have k2 := hk0.2
 by_cases hk : k < 24
 ·have hek := he (k : Nat)
  have next : ¬ fndP (rdS d) p s k → ∀ j : Nat, j < k + 1 → ¬ fndP (rdS d) p s j := fun hn j hj => by
   rcases Nat.lt_or_ge j k with hjk | hjk
   ·exact k2 j hjk
   ·obtain rfl : j = k := by omega
    exact hn
  by_cases hu : (entAt (rdS d) k).u = false
  ·have hek' : encE (entAt (rdS d) k) = [.bl false, .it .i64 (entAt (rdS d) k).p, .st (entAt (rdS d) k).n, .it .i64 (entAt (rdS d) k).t] := by rw [encE, hu]
   rw [hek'] at hek
   (repeat' ((conv=>whnf);first|with_reducible refine gA ?_|((with_reducible refine callE_id ?_); (refine CallE.con ⟨_, hek, ?_⟩))|(with_reducible first|refine gB ?_|refine gZ (fun x hx hu=>?_)|refine gY (fun x hx=>?_)|refine gE ?_|refine Both.mk ?_ ?_|refine gS (fun h=>?_) (fun h=>?_)|refine Spl.nt ?_|refine Spl.mk (fun h=>?_) (fun h=>?_))))
   refine ⟨k + 1, ⟨by omega, next (fun q => by rw [q.1.1] at hu; cases hu)⟩, by dsimp only; omega, Wk.enF (And.intro rfl (And.intro rfl (And.intro (it_eq (by omega)) trivial))) (by (repeat (first | exact trivial | refine And.intro (obw_eq rfl (by with_unfolding_all exact rfl)) ?_ | refine And.intro (obw_fr (by with_unfolding_all exact rfl) (by (repeat (first | exact trivial | refine And.intro (by with_unfolding_all exact rfl) ?_)))) ?_))) rfl⟩
  ·have hu' : (entAt (rdS d) k).u = true := by simpa using hu
   have hek' : encE (entAt (rdS d) k) = [.bl true, .it .i64 (entAt (rdS d) k).p, .st (entAt (rdS d) k).n, .it .i64 (entAt (rdS d) k).t] := by rw [encE, hu']
   rw [hek'] at hek
   have hin := inode_ok d hd (entAt (rdS d) k).t
   (repeat' ((conv=>whnf);first|with_reducible refine gA ?_|((with_reducible refine callE_id ?_); first | (refine CallE.con ⟨_, hek, ?_⟩) | (refine CallE.con ⟨_, hin, ?_⟩)) | with_reducible refine YieldI.intro ti_ok (by with_unfolding_all exact rfl) (by with_unfolding_all exact rfl) (by with_unfolding_all exact rfl) ?_|(with_reducible first|refine gB ?_|refine gZ (fun x hx hu=>?_)|refine gY (fun x hx=>?_)|refine gE ?_|refine Both.mk ?_ ?_|refine gS (fun h=>?_) (fun h=>?_)|refine Spl.nt ?_|refine Spl.mk (fun h=>?_) (fun h=>?_))))
   ·have hv : fndV (fndK (rdS d) p s) = fndV (some k) := by rw [fndK_some hk ⟨⟨hu', by assumption, by assumption⟩, by assumption⟩ k2]
    exact hv.symm.trans hR
   ·refine ⟨k + 1, ⟨by omega, next (fun q => (by assumption : ¬ _) q.2)⟩, by dsimp only; omega, Wk.enF (And.intro rfl (And.intro rfl (And.intro (it_eq (by omega)) trivial))) (by (repeat (first | exact trivial | refine And.intro (obw_eq rfl (by with_unfolding_all exact rfl)) ?_ | refine And.intro (obw_fr (by with_unfolding_all exact rfl) (by (repeat (first | exact trivial | refine And.intro (by with_unfolding_all exact rfl) ?_)))) ?_))) rfl⟩
   ·refine ⟨k + 1, ⟨by omega, next (fun q => q.1.2.2 (by assumption))⟩, by dsimp only; omega, Wk.enF (And.intro rfl (And.intro rfl (And.intro (it_eq (by omega)) trivial))) (by (repeat (first | exact trivial | refine And.intro (obw_eq rfl (by with_unfolding_all exact rfl)) ?_ | refine And.intro (obw_fr (by with_unfolding_all exact rfl) (by (repeat (first | exact trivial | refine And.intro (by with_unfolding_all exact rfl) ?_)))) ?_))) rfl⟩
   ·refine ⟨k + 1, ⟨by omega, next (fun q => (by assumption : ¬ _) q.1.2.1)⟩, by dsimp only; omega, Wk.enF (And.intro rfl (And.intro rfl (And.intro (it_eq (by omega)) trivial))) (by (repeat (first | exact trivial | refine And.intro (obw_eq rfl (by with_unfolding_all exact rfl)) ?_ | refine And.intro (obw_fr (by with_unfolding_all exact rfl) (by (repeat (first | exact trivial | refine And.intro (by with_unfolding_all exact rfl) ?_)))) ?_))) rfl⟩
 ·(repeat' ((conv=>whnf);first|with_reducible refine gA ?_|(with_reducible first|refine gB ?_|refine gZ (fun x hx hu=>?_)|refine gY (fun x hx=>?_)|refine gE ?_|refine Both.mk ?_ ?_|refine gS (fun h=>?_) (fun h=>?_)|refine Spl.nt ?_|refine Spl.mk (fun h=>?_) (fun h=>?_))))
  have hv : fndV (fndK (rdS d) p s) = fndV none := by rw [fndK_none fun j hj => k2 j (by omega)]
  exact hv.symm.trans hR
end Go.Proofs.YthknbpijaoljgaaGreatDoor
namespace Go.Proofs.YthknbpijaoljgaaGreatDoor
open Go.Sy
def sortS (l : List (List UInt8)) : List (List UInt8) := l.mergeSort fun x y => decide (x ≤ y)
def vS (l : List (List UInt8)) : List (List D) := l.map fun z => [.st z]
theorem sortS_len (l : List (List UInt8)) : (sortS l).length = l.length := List.length_mergeSort _
theorem sortS_ok (t : Nat) (fl : Bool) (zs : List (List UInt8)) (n : Nat) (hn : zs.length = n) (h0 : 0 < n) (hsz : n < 4611686018427387904) : FnM Tryz.prog 142 true [.vx 1 0 0 n] (.vec t 1 (vS zs) fl) (.vec t 1 (vS (sortS zs)) fl) (.tup []) := by
 subst hn
 exact FnM.ofRow (fun l : List UInt8 => Value.string ⟨l.toArray⟩) (fun z => .st z) (fun F x => .st _) (fun F x v h => by cases h; rfl) (m := none) (List.length_mergeSort _) h0 (fun q h => by cases h) Tryz.call142 (fun blk off cap w hH hb hc => (Tryz.slices_Sort_string blk off cap zs w hH hb hsz).mono fun e w' h => h)
theorem compactS_ok (t : Nat) (fl : Bool) (n : Nat) (zs : List (List UInt8)) (hn : zs.length = n) (h0 : 0 < n) (hsz : n < 4611686018427387904) : FnM Tryz.prog 143 true [.vx 1 0 0 n] (.vec t 1 (vS zs) fl) (.vec t 1 (vS (Lib.compact zs ++ List.replicate (zs.length - (Lib.compact zs).length) [])) fl) (.vx 1 0 0 (Lib.compact zs).length) := by
 subst hn
 exact FnM.ofRow (fun l : List UInt8 => Value.string ⟨l.toArray⟩) (fun z => .st z) (fun F x => .st _) (fun F x v h => by cases h; rfl) (m := some (Lib.compact zs).length) (by have := Lib.compact_length_le zs; simp; omega) h0 (fun q h => by cases h; exact Lib.compact_length_le zs) Tryz.call143 (fun blk off cap w hH hb hc => (Tryz.slices_Compact_string blk off cap zs w hH (by omega) hc).mono fun e w' ⟨h1, q, h2⟩ => ⟨h1, q, #[], by rw [Go.Sort.grow_empty]; exact h2⟩)
def nmsK (f : Int → List UInt8) (p : Int) (k : Nat) : List (List UInt8) := ((List.range k).filter fun j => decide (stdP f p j)).map fun j : Nat => (entAt f (j : Nat)).n
def nms (f : Int → List UInt8) (p : Int) : List (List UInt8) := Lib.compact (sortS (nmsK f p 24))
theorem nmsK_len (f : Int → List UInt8) (p : Int) (k : Nat) : (nmsK f p k).length ≤ k := by
 unfold nmsK
 rw [List.length_map]
 exact Nat.le_trans (List.length_filter_le _ _) (by rw [List.length_range]; exact Nat.le_refl _)
theorem nmsK_yes {f : Int → List UInt8} {p : Int} {k : Nat} (h : stdP f p k) : nmsK f p (k + 1) = nmsK f p k ++ [(entAt f (k : Nat)).n] := by
 unfold nmsK
 rw [List.range_succ, List.filter_append, List.map_append]
 simp [h]
theorem nmsK_no {f : Int → List UInt8} {p : Int} {k : Nat} (h : ¬ stdP f p k) : nmsK f p (k + 1) = nmsK f p k := by
 unfold nmsK
 rw [List.range_succ, List.filter_append, List.map_append]
 simp [h]
def lsA (F1 F2 : Func) (d : Option Dk) (p : Int) (k : Nat) (L : List (List UInt8)) : S := ⟨[(0, .yld 11), (1, .ptr 9 0), (5, .d (.it .i64 (k : Nat)))],
  [(11, rgL 10 F1), (10, .frame 30 [(1, .ptr 3 0), (2, .ptr 4 0), (3, .ptr 7 0)]), (9, .cells 1 [.d (encD d)]), (7, .cells 1 [.yld 6]), (6, rgL 5 F2), (5, .frame 23 [(5, .ptr 1 0)]),
   (4, .cells 1 [.d (.it .i64 p)]), (3, .cells 1 [.d (encD d)]), (1, .cells 1 [.vx 1 12 0 L.length]), (12, .vec 9 1 (vS L) false)], 13⟩
theorem wk_tr {N : Nat} {σ τ τ' : S} (e : τ' = τ) (h : Wk N σ τ') : Wk N σ τ := by rw [← e]; exact h
theorem letE_id {e : List (List D)} {K : List (List D) → Prop} (h : LetE e K) : LetE e K := h
theorem letN_id {e : Nat} {K : Nat → Prop} (h : LetN e K) : LetN e K := h
theorem vS_app {L : List (List UInt8)} {x : List UInt8} {n : Nat} (h : n = L.length) : (vS L).take n ++ [[.st x]] = vS (L ++ [x]) := by
 subst h
 unfold vS
 rw [List.take_of_length_le (by rw [List.length_map]; exact Nat.le_refl _), List.map_append]; rfl
set_option maxHeartbeats 8000000 in
theorem list_ok (d : Option Dk) (hd : DkOK d) (p : Int) : FnC Tryz.prog 112 [.d (encD d), .d (.it .i64 p)] (.d (.fs 1 (vS (nms (rdS d) p)))) := by
 have he := fun k => entry_ok d hd k
 refine FnC.intro ti_ok Tryz.func112 rfl Tryz.ntmps112 Tryz.call112 rfl (Nat.le_of_ble_eq_true rfl) rfl ?_
 (repeat' ((conv=>whnf);first|with_reducible refine gA ?_|((with_reducible refine callE_id ?_); refine CallE.inl ?_) | with_reducible refine CallI.inl ti_ok i141 rfl ?_|(with_reducible first|refine gB ?_|refine gZ (fun x hx hu=>?_)|refine gY (fun x hx=>?_)|refine gE ?_|refine Both.mk ?_ ?_|refine gS (fun h=>?_) (fun h=>?_)|refine Spl.nt ?_|refine Spl.mk (fun h=>?_) (fun h=>?_))))
 refine RangeS.intro ti_ok i170 rfl rfl ?_
 (repeat' ((conv=>whnf);first|with_reducible refine gA ?_|((with_reducible refine callE_id ?_); refine CallE.inl ?_) | with_reducible refine CallI.inl ti_ok i121 rfl ?_|(with_reducible first|refine gB ?_|refine gZ (fun x hx hu=>?_)|refine gY (fun x hx=>?_)|refine gE ?_|refine Both.mk ?_ ?_|refine gS (fun h=>?_) (fun h=>?_)|refine Spl.nt ?_|refine Spl.mk (fun h=>?_) (fun h=>?_))))
 refine RangeS.intro ti_ok i153 rfl rfl ?_
 (repeat' ((conv=>whnf);first|with_reducible refine gA ?_|(with_reducible first|refine gB ?_|refine gZ (fun x hx hu=>?_)|refine gY (fun x hx=>?_)|refine gE ?_|refine Both.mk ?_ ?_|refine gS (fun h=>?_) (fun h=>?_)|refine Spl.nt ?_|refine Spl.mk (fun h=>?_) (fun h=>?_))))
 conv => whnf
 refine LoopS.wk (Wk.nlVx 1 0 1 1 9 (by with_unfolding_all exact rfl) (by with_unfolding_all exact rfl)) ?_
 refine LoopS.wk (τ := lsA Tryz.f170 Tryz.f112 d p 0 []) (Wk.enF (And.intro rfl (And.intro rfl (And.intro rfl trivial))) (by (repeat (first | exact trivial | refine And.intro (obw_eq rfl (by with_unfolding_all exact rfl)) ?_ | refine And.intro (obw_fr (by with_unfolding_all exact rfl) (by (repeat (first | exact trivial | refine And.intro (by with_unfolding_all exact rfl) ?_)))) ?_))) rfl) ?_
 refine loop_ruleW ti_ok (fun k : Nat => k ≤ 24) (fun k : Nat => lsA Tryz.f170 Tryz.f112 d p k (nmsK (rdS d) p k)) (fun k => 24 - k) 0 (Nat.zero_le _) (Wk.en ⟨And.intro rfl (And.intro rfl (And.intro rfl trivial)), (by (repeat (first | exact trivial | refine And.intro rfl ?_))), rfl⟩) ?_
 intro k k1
 by_cases hk : k < 24
 ·have hek := he (k : Nat)
  have hln := nmsK_len (rdS d) p k
  have hlv : (vS (nmsK (rdS d) p k)).length = (nmsK (rdS d) p k).length := List.length_map ..
  by_cases hu : (entAt (rdS d) k).u = false
  ·have hek' : encE (entAt (rdS d) k) = [.bl false, .it .i64 (entAt (rdS d) k).p, .st (entAt (rdS d) k).n, .it .i64 (entAt (rdS d) k).t] := by rw [encE, hu]
   rw [hek'] at hek
   have hno : nmsK (rdS d) p (k + 1) = nmsK (rdS d) p k := nmsK_no (fun q => by rw [q.1] at hu; cases hu)
   (repeat' ((conv=>whnf);first|with_reducible refine gA ?_|((with_reducible refine callE_id ?_); (refine CallE.con ⟨_, hek, ?_⟩))|(with_reducible first|refine gB ?_|refine gZ (fun x hx hu=>?_)|refine gY (fun x hx=>?_)|refine gE ?_|refine Both.mk ?_ ?_|refine gS (fun h=>?_) (fun h=>?_)|refine Spl.nt ?_|refine Spl.mk (fun h=>?_) (fun h=>?_))))
   refine ⟨k + 1, by omega, by dsimp only; omega, wk_tr (congrArg (lsA Tryz.f170 Tryz.f112 d p (k + 1)) hno.symm) (Wk.enF (And.intro rfl (And.intro rfl (And.intro (it_eq (by omega)) trivial))) (by (repeat (first | exact trivial | refine And.intro (obw_eq rfl (by with_unfolding_all exact rfl)) ?_ | refine And.intro (obw_fr (by with_unfolding_all exact rfl) (by (repeat (first | exact trivial | refine And.intro (by with_unfolding_all exact rfl) ?_)))) ?_))) rfl)⟩
  ·have hu' : (entAt (rdS d) k).u = true := by simpa using hu
   have hek' : encE (entAt (rdS d) k) = [.bl true, .it .i64 (entAt (rdS d) k).p, .st (entAt (rdS d) k).n, .it .i64 (entAt (rdS d) k).t] := by rw [encE, hu']
   rw [hek'] at hek
   have hin := inode_ok d hd (entAt (rdS d) k).t
   (repeat' ((conv=>whnf);first|with_reducible refine gA ?_|((with_reducible refine callE_id ?_); first | (refine CallE.con ⟨_, hek, ?_⟩) | (refine CallE.con ⟨_, hin, ?_⟩)) | with_reducible refine YieldI.intro ti_ok (by with_unfolding_all exact rfl) (by with_unfolding_all exact rfl) (by with_unfolding_all exact rfl) ?_ | ((with_reducible refine letE_id ?_); refine LetE.mk (vS (nmsK (rdS d) p k ++ [(entAt (rdS d) k).n])) (vS_app rfl).symm ?_) | ((with_reducible refine letN_id ?_); refine LetN.eq (nmsK (rdS d) p k ++ [(entAt (rdS d) k).n]).length (by rw [List.length_append]; rfl) ?_)|(with_reducible first|refine gB ?_|refine gZ (fun x hx hu=>?_)|refine gY (fun x hx=>?_)|refine gE ?_|refine Both.mk ?_ ?_|refine gS (fun h=>?_) (fun h=>?_)|refine Spl.nt ?_|refine Spl.mk (fun h=>?_) (fun h=>?_))))
   ·have hyes := nmsK_yes (f := rdS d) (p := p) (k := k) ⟨hu', by assumption, by assumption⟩
    refine ⟨k + 1, by omega, by dsimp only; omega, wk_tr (congrArg (lsA Tryz.f170 Tryz.f112 d p (k + 1)) hyes.symm) (Wk.enF (And.intro rfl (And.intro rfl (And.intro (it_eq (by omega)) trivial))) (by (repeat (first | exact trivial | refine And.intro (obw_eq rfl (by with_unfolding_all exact rfl)) ?_ | refine And.intro (obw_fr (by with_unfolding_all exact rfl) (by (repeat (first | exact trivial | refine And.intro (by with_unfolding_all exact rfl) ?_)))) ?_))) rfl)⟩
   ·have hno : nmsK (rdS d) p (k + 1) = nmsK (rdS d) p k := nmsK_no (fun q => q.2.2 (by assumption))
    refine ⟨k + 1, by omega, by dsimp only; omega, wk_tr (congrArg (lsA Tryz.f170 Tryz.f112 d p (k + 1)) hno.symm) (Wk.enF (And.intro rfl (And.intro rfl (And.intro (it_eq (by omega)) trivial))) (by (repeat (first | exact trivial | refine And.intro (obw_eq rfl (by with_unfolding_all exact rfl)) ?_ | refine And.intro (obw_fr (by with_unfolding_all exact rfl) (by (repeat (first | exact trivial | refine And.intro (by with_unfolding_all exact rfl) ?_)))) ?_))) rfl)⟩
   ·have hno : nmsK (rdS d) p (k + 1) = nmsK (rdS d) p k := nmsK_no (fun q => (by assumption : ¬ _) q.2.1)
    refine ⟨k + 1, by omega, by dsimp only; omega, wk_tr (congrArg (lsA Tryz.f170 Tryz.f112 d p (k + 1)) hno.symm) (Wk.enF (And.intro rfl (And.intro rfl (And.intro (it_eq (by omega)) trivial))) (by (repeat (first | exact trivial | refine And.intro (obw_eq rfl (by with_unfolding_all exact rfl)) ?_ | refine And.intro (obw_fr (by with_unfolding_all exact rfl) (by (repeat (first | exact trivial | refine And.intro (by with_unfolding_all exact rfl) ?_)))) ?_))) rfl)⟩
 ·have hk24 : k = 24 := by omega
  have hln := nmsK_len (rdS d) p k
  have hR : nms (rdS d) p = Lib.compact (sortS (nmsK (rdS d) p k)) := by unfold nms; rw [hk24]
  by_cases hL : (nmsK (rdS d) p k).length = 0
  ·have hnil : nmsK (rdS d) p k = [] := List.length_eq_zero_iff.1 hL
   have hR0 : nms (rdS d) p = [] := by
    rw [hR, hnil]
    exact List.length_eq_zero_iff.1 (Nat.le_zero.1 (by have := Lib.compact_length_le (sortS ([] : List (List UInt8))); rw [sortS_len] at this; exact this))
   (repeat' ((conv=>whnf);first|with_reducible refine gA ?_|((with_reducible refine callE_id ?_); refine CallE.inl ?_) | ((with_reducible refine callI_id ?_); first | refine CallI.none0 Tryz.call142 Tryz.slices_Sort_string_none (by with_unfolding_all exact rfl) hL ?_ | refine CallI.same0 Tryz.call143 Tryz.slices_Compact_string_empty (by with_unfolding_all exact rfl) hL ?_)|(with_reducible first|refine gB ?_|refine gZ (fun x hx hu=>?_)|refine gY (fun x hx=>?_)|refine gE ?_|refine Both.mk ?_ ?_|refine gS (fun h=>?_) (fun h=>?_)|refine Spl.nt ?_|refine Spl.mk (fun h=>?_) (fun h=>?_))))
   refine fs_eq ?_
   rw [hR0, hnil]; rfl
  ·have hpos : 0 < (nmsK (rdS d) p k).length := by omega
   have hcl : (Lib.compact (sortS (nmsK (rdS d) p k))).length ≤ (sortS (nmsK (rdS d) p k)).length := Lib.compact_length_le _
   (repeat' ((conv=>whnf);first|with_reducible refine gA ?_|((with_reducible refine callE_id ?_); refine CallE.inl ?_) | ((with_reducible refine callI_id ?_); first | refine CallI.byM (sortS_ok 9 false (nmsK (rdS d) p k) _ rfl hpos (by omega)) (by with_unfolding_all exact rfl) rfl ?_ | refine CallI.byM (compactS_ok 9 false (nmsK (rdS d) p k).length (sortS (nmsK (rdS d) p k)) (sortS_len _) hpos (by omega)) (by with_unfolding_all exact rfl) rfl ?_)|(with_reducible first|refine gB ?_|refine gZ (fun x hx hu=>?_)|refine gY (fun x hx=>?_)|refine gE ?_|refine Both.mk ?_ ?_|refine gS (fun h=>?_) (fun h=>?_)|refine Spl.nt ?_|refine Spl.mk (fun h=>?_) (fun h=>?_))))
   refine And.intro ?_ ?_
   ·show 0 + (Lib.compact (sortS (nmsK (rdS d) p k))).length ≤ (vS (Lib.compact (sortS (nmsK (rdS d) p k)) ++ _)).length
    unfold vS
    rw [List.length_map, List.length_append]; omega
   ·(repeat' ((conv=>whnf);first|with_reducible refine gA ?_|(with_reducible first|refine gB ?_|refine gZ (fun x hx hu=>?_)|refine gY (fun x hx=>?_)|refine gE ?_|refine Both.mk ?_ ?_|refine gS (fun h=>?_) (fun h=>?_)|refine Spl.nt ?_|refine Spl.mk (fun h=>?_) (fun h=>?_))))
    refine fs_eq ?_
    rw [hR]
    show (List.drop 0 (vS (_ ++ _))).take _ = _
    unfold vS
    rw [List.drop_zero, List.map_append, List.take_left' (List.length_map ..)]
end Go.Proofs.YthknbpijaoljgaaGreatDoor
namespace Go.Proofs.YthknbpijaoljgaaGreatDoor
open Go.Sy
theorem less_lt : ∀ a b : List UInt8, Op.bytesLess a b = true ↔ a < b
 | [], [] => by simp [Op.bytesLess]
 | [], _ :: _ => by simp [Op.bytesLess]
 | _ :: _, [] => by simp [Op.bytesLess]
 | a :: s, b :: t => by
  rw [List.cons_lt_cons_iff, ← less_lt s t]
  simp [Op.bytesLess]
theorem le_less (a b : List UInt8) : a ≤ b ↔ Op.bytesLess b a = false := by
 rw [← Bool.not_eq_true, less_lt]; exact Iff.rfl
theorem le_tr {a b c : List UInt8} (h : a ≤ b) (k : b ≤ c) : a ≤ c := by
 rw [le_less] at h k ⊢
 cases hc : Op.bytesLess c a with
 | false => rfl
 | true =>
  cases hb : Op.bytesLess c b with
  | true => rw [hb] at k; cases k
  | false =>
   have := less_tri c b hb
   cases hb' : Op.bytesLess b c with
   | false => rw [this hb'] at hc; rw [hc] at h; cases h
   | true => rw [less_trans b c a hb' hc] at h; cases h
theorem lt_of_le_ne {a b : List UInt8} (h : a ≤ b) (k : a ≠ b) : a < b := by
 rw [← less_lt]
 rw [le_less] at h
 cases hc : Op.bytesLess a b with
 | true => rfl
 | false => exact absurd (less_tri a b hc h) k
theorem lt_of_le_lt {a b c : List UInt8} (h : a ≤ b) (k : b < c) : a < c := by
 by_cases e : a = b
 ·rw [e]; exact k
 ·have := lt_of_le_ne h e
  rw [← less_lt] at this k ⊢
  exact less_trans a b c this k
theorem not_lt_self (a : List UInt8) : ¬ a < a := by rw [← less_lt, less_irr]; simp
theorem sortS_sorted (l : List (List UInt8)) : (sortS l).Pairwise (· ≤ ·) := by
 have := List.pairwise_mergeSort (le := fun x y : List UInt8 => decide (x ≤ y)) (fun a b c h k => by simp only [decide_eq_true_eq] at h k ⊢; exact le_tr h k)
  (fun a b => by
   simp only [Bool.or_eq_true, decide_eq_true_eq, le_less]
   cases h : Op.bytesLess b a with
   | false => exact .inl rfl
   | true => exact .inr (less_asy b a h)) l
 exact this.imp fun h => by simpa using h
theorem compact_sorted {l : List (List UInt8)} (h : l.Pairwise (· ≤ ·)) : (Lib.compact l).Pairwise (· < ·) := by
 have hg : ∀ i j (hi : i < l.length) (hj : j < l.length), i ≤ j → l[i] ≤ l[j] := fun i j hi hj hij => by
  rcases Nat.lt_or_eq_of_le hij with h1 | rfl
  ·exact List.pairwise_iff_getElem.1 h i j hi hj h1
  ·rw [le_less]; exact less_irr _
 have hb : ∀ i (hi : i < l.length), (l.toArray)[i]! = l[i] := fun i hi => by
  rw [getElem!_pos l.toArray i (by simpa using hi)]; simp
 unfold Lib.compact Lib.compactUpTo
 rw [List.pairwise_map, List.pairwise_filter]
 refine List.pairwise_lt_range.imp_of_mem fun {i j} hi hj hij _ hk => ?_
 rw [List.mem_range] at hi hj
 unfold Lib.keeps at hk
 have hk := of_decide_eq_true hk
 rcases hk with hk | hk
 ·omega
 ·rw [hb j hj, hb (j - 1) (by omega)] at hk
  rw [hb i hi, hb j hj]
  exact lt_of_le_lt (hg i (j - 1) hi (by omega) (by omega)) (lt_of_le_ne (hg (j - 1) j (by omega) hj (by omega)) fun e => hk e.symm)
theorem compact_mem {l : List (List UInt8)} (x : List UInt8) : x ∈ Lib.compact l ↔ x ∈ l := by
 have hb : ∀ i (hi : i < l.length), (l.toArray)[i]! = l[i] := fun i hi => by
  rw [getElem!_pos l.toArray i (by simpa using hi)]; simp
 unfold Lib.compact Lib.compactUpTo
 constructor
 ·intro h
  obtain ⟨i, hi, rfl⟩ := List.mem_map.1 h
  have := List.mem_range.1 (List.mem_filter.1 hi).1
  rw [hb i this]
  exact List.getElem_mem _
 ·intro h
  have key : ∀ i (hi : i < l.length), l[i] ∈ ((List.range l.length).filter (Lib.keeps l.toArray)).map (l.toArray[·]!) := by
   intro i
   induction i with
   | zero =>
    intro hi
    refine List.mem_map.2 ⟨0, List.mem_filter.2 ⟨List.mem_range.2 hi, by simp [Lib.keeps]⟩, hb 0 hi⟩
   | succ i ih =>
    intro hi
    by_cases e : l[i + 1] = l[i]
    ·rw [e]; exact ih (by omega)
    ·refine List.mem_map.2 ⟨i + 1, List.mem_filter.2 ⟨List.mem_range.2 hi, ?_⟩, hb _ hi⟩
     unfold Lib.keeps
     refine decide_eq_true (.inr ?_)
     rw [hb _ hi, Nat.add_sub_cancel, hb i (by omega)]
     exact e
  obtain ⟨i, hi, rfl⟩ := List.getElem_of_mem h
  exact key i hi
end Go.Proofs.YthknbpijaoljgaaGreatDoor
namespace Go.Proofs.YthknbpijaoljgaaGreatDoor
open Go.Sy
def kOf (f : Int → List UInt8) (n : Int) (s : List UInt8) : Int := match fndK f n s with
 | some k => (k : Nat)
 | none => 0
def mOf (f : Int → List UInt8) (n : Int) (s : List UInt8) : Int := (entAt f (kOf f n s)).t
def dataV (f : Int → List UInt8) (x : Ino) : List UInt8 := (f (40 + x.b0) ++ f (40 + x.b1) ++ f (40 + x.b2) ++ f (40 + x.b3)).take x.z.toNat
def nodV (f : Int → List UInt8) (way : List (List UInt8)) (n : Int) (s : List UInt8) : Nod := ⟨joinR (way ++ [s]), (inoAt f (mOf f n s)).k == 2, dataV f (inoAt f (mOf f n s))⟩
def subV (f : Int → List UInt8) : Nat → Int → List (List UInt8) → List Nod
 | 0, _, _ => []
 | j + 1, n, way => (nms f n).flatMap fun s => nodV f way n s :: (if (inoAt f (mOf f n s)).k = 2 then subV f j (mOf f n s) (way ++ [s]) else [])
def subL (f : Int → List UInt8) (j : Nat) (n : Int) (way : List (List UInt8)) (l : List (List UInt8)) : List Nod := l.flatMap fun s => nodV f way n s :: (if (inoAt f (mOf f n s)).k = 2 then subV f j (mOf f n s) (way ++ [s]) else [])
theorem subL_cons (f : Int → List UInt8) (j : Nat) (n : Int) (way : List (List UInt8)) (s : List UInt8) (l : List (List UInt8)) : subL f j n way (s :: l) = nodV f way n s :: ((if (inoAt f (mOf f n s)).k = 2 then subV f j (mOf f n s) (way ++ [s]) else []) ++ subL f j n way l) := by
 unfold subL
 rw [List.flatMap_cons]; rfl
def topV (L : List Nod) : List Nod × Bool := (L.take 64, decide (L.length ≤ 64))
def treeV (f : Int → List UInt8) : List Nod × Bool := if (inoAt f 0).k = 2 then topV (subV f 4 0 []) else ([], true)
def tupN (r : List Nod × Bool) : AV := .tup [.d (.fs 3 (r.1.map encN)), .d (.bl r.2)]
theorem entAt_RE (f : Int → List UInt8) (k : Int) : RE (entAt f k) := by
 unfold entAt
 split
 ·unfold entOf
  split
  ·rename_i h; exact h.1
  ·exact .inl ⟨rfl, rfl, rfl, rfl⟩
 ·exact .inl ⟨rfl, rfl, rfl, rfl⟩
theorem inoAt_RI (f : Int → List UInt8) (n : Int) : RI (inoAt f n) := by
 have h0 : RI ino0 := by decide
 unfold inoAt
 split
 ·unfold inoOf
  split
  ·rename_i h; exact h.1
  ·exact h0
 ·exact h0
theorem nms_name (f : Int → List UInt8) (n : Int) : ∀ s ∈ nms f n, nameB s = true := by
 intro s hs
 unfold nms at hs
 rw [compact_mem] at hs
 have hs := (List.mem_mergeSort).1 hs
 unfold nmsK at hs
 obtain ⟨k, hk, rfl⟩ := List.mem_map.1 hs
 have := of_decide_eq_true (List.mem_filter.1 hk).2
 have hu := this.1
 rcases entAt_RE f (k : Nat) with h | h
 ·rw [h.1] at hu; cases hu
 ·exact h.2.2.2.2.2
theorem name_len {s : List UInt8} (h : nameB s = true) : s.length ≤ 8 := by
 unfold nameB at h
 rw [Bool.and_eq_true] at h
 exact (of_decide_eq_true h.1).2.1
theorem nms_len (f : Int → List UInt8) (n : Int) : (nms f n).length ≤ 24 := by
 unfold nms
 have h1 := Lib.compact_length_le (sortS (nmsK f n 24))
 have h2 := nmsK_len f n 24
 rw [sortS_len] at h1
 omega
end Go.Proofs.YthknbpijaoljgaaGreatDoor
namespace Go.Proofs.YthknbpijaoljgaaGreatDoor
open Go.Sy
def stepV (f : Int → List UInt8) (n : Int) (s : List UInt8) : Int × Int := if (inoAt f n).k = 2 then (match fndK f n s with | none => (0, 4) | some k => ((entAt f (k : Nat)).t, 0)) else (0, 6)
def lkp (f : Int → List UInt8) : List (List UInt8) → Int → Int × Int
 | [], n => (n, 0)
 | s :: t, n => if (stepV f n s).2 = 0 then lkp f t (stepV f n s).1 else (0, (stepV f n s).2)
def lookP (f : Int → List UInt8) (p : List UInt8) : Int × Int := if (splitP p).2 = 0 then lkp f (splitP p).1 0 else (0, (splitP p).2)
theorem splitP_len (p : List UInt8) : (splitP p).1.length ≤ 4 := by
 unfold splitP
 split
 ·exact Nat.zero_le _
 ·split
  ·exact Nat.zero_le _
  ·split
   ·split
    ·rename_i h3; exact h3.1
    ·exact Nat.zero_le _
   ·exact Nat.zero_le _
end Go.Proofs.YthknbpijaoljgaaGreatDoor
namespace Go.Proofs.YthknbpijaoljgaaGreatDoor
open Go.Sy
theorem name_noS {s : List UInt8} (h : nameB s = true) : s.all (fun b => b != 47) = true := by
 simp only [nameB, Bool.and_eq_true, List.all_eq_true] at h
 rw [List.all_eq_true]
 intro b hb
 have := h.2 b hb
 simp only [signB, decide_eq_true_eq] at this
 rw [bne_iff_ne]
 intro e
 subst e
 revert this; decide
theorem pw_joinP : ∀ (l : List (List UInt8)), (∀ s ∈ l, nameB s = true) → pw (joinP l) = l
 | [], _ => rfl
 | s :: t, h => by
  have e : joinP (s :: t) = 47 :: (s ++ joinP t) := by simp [joinP]
  rw [e, pw, wordsC_app ?_ (name_noS (h s (List.mem_cons_self ..))), pw_joinP t fun x hx => h x (List.mem_cons_of_mem _ hx)]
  cases t with
  | nil => exact .inl rfl
  | cons a b => right; simp [joinP]
theorem split_joinR {l : List (List UInt8)} (h : ∀ s ∈ l, nameB s = true) (h4 : l.length ≤ 4) : splitP (joinR l) = (l, 0) := by
 by_cases h0 : l = []
 ·subst h0; rfl
 ·have hp := pw_joinP l h
  rw [joinR, if_neg h0]
  have hh : (joinP l)[0]? = some 47 := by
   cases l with
   | nil => exact absurd rfl h0
   | cons a b => simp [joinP]
  have h1 : ¬ joinP l = [47] := fun e => by
   rw [e] at hp
   have e2 : l = [[]] := hp.symm
   subst e2
   have := h [] (List.mem_cons_self ..)
   revert this; decide
  rw [splitP_pw0 h1 hh (by rw [hp]; exact h4) (by rw [hp, List.all_eq_true]; exact h), hp]
theorem join_splitP {p : List UInt8} (h : (splitP p).2 = 0) : joinR (splitP p).1 = p := by
 unfold splitP at h ⊢
 split
 ·rename_i h1; subst h1; rfl
 ·rename_i h1
  rw [if_neg h1] at h
  cases p with
  | nil => exact absurd h (by decide)
  | cons b r =>
   simp only at h ⊢
   split
   ·rename_i h2
    rw [if_pos h2] at h
    subst h2
    split
    ·rw [joinR, if_neg (wordsC_ne 47 r), joinP_words]
    ·rename_i h3; rw [if_neg h3] at h; exact absurd h (by decide)
   ·rename_i h2; rw [if_neg h2] at h; exact absurd h (by decide)
theorem lkp_app (f : Int → List UInt8) : ∀ (a b : List (List UInt8)) (n m : Int), lkp f a n = (m, 0) → lkp f (a ++ b) n = lkp f b m
 | [], b, n, m, h => by
  rw [lkp] at h
  obtain rfl : n = m := (Prod.ext_iff.1 h).1
  rfl
 | s :: t, b, n, m, h => by
  rw [List.cons_append, lkp]
  rw [lkp] at h
  by_cases h0 : (stepV f n s).2 = 0
  ·rw [if_pos h0] at h ⊢
   exact lkp_app f t b _ m h
  ·rw [if_neg h0] at h
   exact absurd (Prod.ext_iff.1 h).2 h0
theorem nms_fnd (f : Int → List UInt8) (n : Int) (s : List UInt8) : s ∈ nms f n ↔ ∃ k, fndK f n s = some k ∧ fndP f n s k := by
 unfold nms
 rw [compact_mem, sortS, List.mem_mergeSort, nmsK]
 constructor
 ·intro h
  obtain ⟨k, hk, e⟩ := List.mem_map.1 h
  obtain ⟨hk, hs⟩ := List.mem_filter.1 hk
  have hs := of_decide_eq_true hs
  cases hf : fndK f n s with
  | none =>
   unfold fndK at hf
   rw [List.find?_eq_none] at hf
   exact absurd (decide_eq_true (⟨hs, e⟩ : fndP f n s k)) (hf k hk)
  | some j =>
   refine ⟨j, rfl, ?_⟩
   unfold fndK at hf
   have := List.find?_some hf
   exact of_decide_eq_true this
 ·rintro ⟨k, hk, hp⟩
  unfold fndK at hk
  exact List.mem_map.2 ⟨k, List.mem_filter.2 ⟨List.mem_of_find?_eq_some hk, decide_eq_true hp.1⟩, hp.2⟩
theorem step_nms {f : Int → List UInt8} {n : Int} {s : List UInt8} (h2 : (inoAt f n).k = 2) (hs : s ∈ nms f n) : stepV f n s = (mOf f n s, 0) ∧ (inoAt f (mOf f n s)).k ≠ 0 := by
 obtain ⟨k, hk, hp⟩ := (nms_fnd f n s).1 hs
 have e : mOf f n s = (entAt f (k : Nat)).t := by unfold mOf kOf; rw [hk]
 refine ⟨?_, ?_⟩
 ·unfold stepV; rw [if_pos h2, hk, e]
 ·rw [e]; exact hp.1.2.2
theorem nms_step {f : Int → List UInt8} {n : Int} {s : List UInt8} (h : (stepV f n s).2 = 0) : (inoAt f n).k = 2 ∧ s ∈ nms f n ∧ (stepV f n s).1 = mOf f n s := by
 unfold stepV at h ⊢
 by_cases h2 : (inoAt f n).k = 2
 ·rw [if_pos h2] at h ⊢
  cases hk : fndK f n s with
  | none => rw [hk] at h; cases h
  | some k =>
   refine ⟨h2, (nms_fnd f n s).2 ⟨k, hk, ?_⟩, ?_⟩
   ·unfold fndK at hk
    have := List.find?_some hk
    exact of_decide_eq_true this
   ·unfold mOf kOf; rw [hk]
 ·rw [if_neg h2] at h; exact absurd h (by decide)
def FoundV (f : Int → List UInt8) (way rest : List (List UInt8)) (x : Nod) : Prop :=
 ∃ m : Int, x.p = joinR (way ++ rest) ∧ (∀ s ∈ rest, nameB s = true) ∧ rest ≠ [] ∧ lkp f (way ++ rest) 0 = (m, 0) ∧ x.d = ((inoAt f m).k == 2) ∧ (inoAt f m).k ≠ 0 ∧ x.x = dataV f (inoAt f m)
theorem sub_mem (f : Int → List UInt8) : ∀ (j : Nat) (n : Int) (way : List (List UInt8)), lkp f way 0 = (n, 0) → (inoAt f n).k = 2 → ∀ x ∈ subV f j n way, ∃ rest, rest.length ≤ j ∧ FoundV f way rest x
 | 0, _, _, _, _, x, hx => by cases hx
 | j + 1, n, way, hw, h2, x, hx => by
  rw [subV] at hx
  obtain ⟨s, hs, hx⟩ := List.mem_flatMap.1 hx
  obtain ⟨e1, e2⟩ := step_nms h2 hs
  have hn := nms_name f n s hs
  have hw' : lkp f (way ++ [s]) 0 = (mOf f n s, 0) := by
   rw [lkp_app f way [s] 0 n hw, lkp, e1, if_pos rfl, lkp]
  rcases List.mem_cons.1 hx with rfl | hx
  ·exact ⟨[s], by simp, mOf f n s, rfl, fun a ha => by rw [List.mem_singleton.1 ha]; exact hn, by simp, hw', rfl, e2, rfl⟩
  ·by_cases hk : (inoAt f (mOf f n s)).k = 2
   ·rw [if_pos hk] at hx
    obtain ⟨r, hr, m, a1, a2, a3, a4, a5, a6, a7⟩ := sub_mem f j (mOf f n s) (way ++ [s]) hw' hk x hx
    rw [List.append_assoc] at a1 a4
    refine ⟨[s] ++ r, by simp; omega, m, a1, fun a ha => ?_, by simp, a4, a5, a6, a7⟩
    rcases List.mem_append.1 ha with ha | ha
    ·rw [List.mem_singleton.1 ha]; exact hn
    ·exact a2 a ha
   ·rw [if_neg hk] at hx; cases hx
theorem sub_all (f : Int → List UInt8) : ∀ (j : Nat) (n : Int) (way : List (List UInt8)) (rest : List (List UInt8)) (m : Int), rest ≠ [] → rest.length ≤ j → lkp f rest n = (m, 0) → ∃ x ∈ subV f j n way, x.p = joinR (way ++ rest)
 | j, n, way, [], m, h0, _, _ => absurd rfl h0
 | 0, n, way, s :: t, m, _, hj, _ => by cases hj
 | j + 1, n, way, s :: t, m, _, hj, h => by
  rw [lkp] at h
  by_cases h0 : (stepV f n s).2 = 0
  ·rw [if_pos h0] at h
   obtain ⟨a1, a2, a3⟩ := nms_step h0
   rw [a3] at h
   rw [subV]
   by_cases ht : t = []
   ·subst ht
    exact ⟨_, List.mem_flatMap.2 ⟨s, a2, List.mem_cons_self ..⟩, rfl⟩
   ·have hk : (inoAt f (mOf f n s)).k = 2 := by
     cases t with
     | nil => exact absurd rfl ht
     | cons a b =>
      rw [lkp] at h
      by_cases hs : (stepV f (mOf f n s) a).2 = 0
      ·exact (nms_step hs).1
      ·rw [if_neg hs] at h; exact absurd (Prod.ext_iff.1 h).2 hs
    obtain ⟨x, hx, e⟩ := sub_all f j (mOf f n s) (way ++ [s]) t m ht (by simp at hj; omega) h
    refine ⟨x, List.mem_flatMap.2 ⟨s, a2, List.mem_cons_of_mem _ (by rw [if_pos hk]; exact hx)⟩, ?_⟩
    rw [e, List.append_assoc]; rfl
  ·rw [if_neg h0] at h; exact absurd (Prod.ext_iff.1 h).2 h0
theorem befN_app : ∀ (w a b : List (List UInt8)), befN (w ++ a) (w ++ b) = befN a b
 | [], _, _ => rfl
 | x :: w, a, b => by rw [List.cons_append, List.cons_append, befN, if_pos rfl, befN_app w]
theorem sub_sort (f : Int → List UInt8) : ∀ (j : Nat) (n : Int) (way : List (List UInt8)), lkp f way 0 = (n, 0) → (inoAt f n).k = 2 → (∀ s ∈ way, nameB s = true) → way.length + j ≤ 4 → (subV f j n way).Pairwise fun x y => befN (key x.p) (key y.p) = true
 | 0, _, _, _, _, _, _ => List.Pairwise.nil
 | j + 1, n, way, hw, h2, hn, h4 => by
  have hkey : ∀ (i : Nat) (w rest : List (List UInt8)) (x : Nod), FoundV f w rest x → (∀ s ∈ w, nameB s = true) → (w ++ rest).length ≤ 4 → key x.p = w ++ rest := fun i w rest x ⟨m, a1, a2, _⟩ hw hl => by
   unfold key
   rw [a1, split_joinR (fun s hs => (List.mem_append.1 hs).elim (hw s) (a2 s)) hl]
  have hone : ∀ s ∈ nms f n, ∀ x ∈ (nodV f way n s :: (if (inoAt f (mOf f n s)).k = 2 then subV f j (mOf f n s) (way ++ [s]) else [])), ∃ r, key x.p = way ++ (s :: r) := by
   intro s hs x hx
   obtain ⟨e1, e2⟩ := step_nms h2 hs
   have hns := nms_name f n s hs
   have hw' : lkp f (way ++ [s]) 0 = (mOf f n s, 0) := by
    rw [lkp_app f way [s] 0 n hw, lkp, e1, if_pos rfl, lkp]
   rcases List.mem_cons.1 hx with rfl | hx
   ·refine ⟨[], ?_⟩
    show key (joinR (way ++ [s])) = _
    unfold key
    rw [split_joinR (fun a ha => (List.mem_append.1 ha).elim (hn a) fun q => by rw [List.mem_singleton.1 q]; exact hns) (by simp; omega)]
   ·by_cases hk : (inoAt f (mOf f n s)).k = 2
    ·rw [if_pos hk] at hx
     obtain ⟨r, hr, hf⟩ := sub_mem f j (mOf f n s) (way ++ [s]) hw' hk x hx
     refine ⟨r, ?_⟩
     rw [hkey j (way ++ [s]) r x hf (fun a ha => (List.mem_append.1 ha).elim (hn a) fun q => by rw [List.mem_singleton.1 q]; exact hns) (by simp; omega), List.append_assoc]; rfl
    ·rw [if_neg hk] at hx; cases hx
  rw [subV, List.pairwise_flatMap]
  refine ⟨fun s hs => ?_, ?_⟩
  ·obtain ⟨e1, e2⟩ := step_nms h2 hs
   have hns := nms_name f n s hs
   have hw' : lkp f (way ++ [s]) 0 = (mOf f n s, 0) := by
    rw [lkp_app f way [s] 0 n hw, lkp, e1, if_pos rfl, lkp]
   have hnw : ∀ a ∈ way ++ [s], nameB a = true := fun a ha => (List.mem_append.1 ha).elim (hn a) fun q => by rw [List.mem_singleton.1 q]; exact hns
   rw [List.pairwise_cons]
   by_cases hk : (inoAt f (mOf f n s)).k = 2
   ·rw [if_pos hk]
    refine ⟨fun x hx => ?_, sub_sort f j (mOf f n s) (way ++ [s]) hw' hk hnw (by simp; omega)⟩
    obtain ⟨r, hr, hf⟩ := sub_mem f j (mOf f n s) (way ++ [s]) hw' hk x hx
    have e0 : key (nodV f way n s).p = (way ++ [s]) ++ [] := by
     show key (joinR (way ++ [s])) = _
     unfold key
     rw [split_joinR hnw (by simp; omega), List.append_nil]
    rw [e0, hkey j (way ++ [s]) r x hf hnw (by simp; omega), befN_app]
    obtain ⟨m, _, _, a3, _⟩ := hf
    cases r with
    | nil => exact absurd rfl a3
    | cons a b => rfl
   ·rw [if_neg hk]; exact ⟨fun x hx => (List.not_mem_nil hx).elim, List.Pairwise.nil⟩
  ·refine List.Pairwise.imp_of_mem (R := (· < ·)) (fun {s t} hs ht hst x hx y hy => ?_) (compact_sorted (sortS_sorted _))
   obtain ⟨r, hr⟩ := hone s hs x hx
   obtain ⟨q, hq⟩ := hone t ht y hy
   have : ¬ s = t := fun e => not_lt_self s (by rw [← e] at hst; exact hst)
   rw [hr, hq, befN_app, befN, if_neg this]
   exact (less_lt s t).2 hst
def TreeOK (f : Int → List UInt8) (t : List Nod × Bool) : Prop :=
 t.1.length ≤ 64 ∧ (t.2 = false → t.1.length = 64)
 ∧ (∀ x ∈ t.1, ∃ m : Int, lookP f x.p = (m, 0) ∧ x.d = ((inoAt f m).k == 2) ∧ (inoAt f m).k ≠ 0 ∧ x.x = dataV f (inoAt f m) ∧ x.p ≠ [47])
 ∧ t.1.Pairwise (fun x y => befN (key x.p) (key y.p) = true)
 ∧ (t.2 = true → ∀ p : List UInt8, (∃ x ∈ t.1, x.p = p) ↔ (lookP f p).2 = 0 ∧ p ≠ [47])
theorem tree_law (f : Int → List UInt8) : TreeOK f (treeV f) := by
 unfold treeV
 by_cases h2 : (inoAt f 0).k = 2
 ·rw [if_pos h2]
  have hm : ∀ x ∈ subV f 4 0 [], ∃ m : Int, lookP f x.p = (m, 0) ∧ x.d = ((inoAt f m).k == 2) ∧ (inoAt f m).k ≠ 0 ∧ x.x = dataV f (inoAt f m) ∧ x.p ≠ [47] := by
   intro x hx
   obtain ⟨r, hr, m, a1, a2, a3, a4, a5, a6, a7⟩ := sub_mem f 4 0 [] rfl h2 x hx
   rw [List.nil_append] at a1 a4
   have e := split_joinR a2 hr
   refine ⟨m, ?_, a5, a6, a7, fun q => ?_⟩
   ·unfold lookP; rw [a1, e, if_pos rfl, a4]
   ·rw [← a1, q] at e
    exact a3 (Prod.ext_iff.1 e).1.symm
  have hs := sub_sort f 4 0 [] rfl h2 (fun s hs => by cases hs) (Nat.le_refl 4)
  unfold topV
  refine ⟨by simp only [List.length_take]; omega, fun h => ?_, fun x hx => hm x (List.mem_of_mem_take hx), hs.sublist (List.take_sublist ..), fun h p => ?_⟩
  ·have := of_decide_eq_false h
   simp only [List.length_take]; omega
  ·have h := of_decide_eq_true h
   simp only [List.take_of_length_le h]
   constructor
   ·rintro ⟨x, hx, rfl⟩
    obtain ⟨m, a1, _, _, _, a2⟩ := hm x hx
    exact ⟨by rw [a1], a2⟩
   ·rintro ⟨h0, h1⟩
    have hsp : (splitP p).2 = 0 := by
     unfold lookP at h0
     by_cases q : (splitP p).2 = 0
     ·exact q
     ·rw [if_neg q] at h0; exact h0
    have e := join_splitP hsp
    unfold lookP at h0
    rw [if_pos hsp] at h0
    obtain ⟨x, hx, ex⟩ := sub_all f 4 0 [] (splitP p).1 (lkp f (splitP p).1 0).1 (fun q => by rw [q] at e; exact h1 e.symm) (splitP_len p) (Prod.ext rfl h0)
    exact ⟨x, hx, by rw [ex, List.nil_append, e]⟩
 ·rw [if_neg h2]
  refine ⟨Nat.zero_le _, fun h => (by cases h), fun x hx => (List.not_mem_nil hx).elim, List.Pairwise.nil, fun _ p => ?_⟩
  constructor
  ·rintro ⟨x, hx, _⟩; cases hx
  ·rintro ⟨h0, h1⟩
   exfalso
   unfold lookP at h0
   by_cases q : (splitP p).2 = 0
   ·rw [if_pos q] at h0
    have e := join_splitP q
    cases hp : (splitP p).1 with
    | nil => rw [hp] at e; exact h1 e.symm
    | cons a b =>
     rw [hp, lkp] at h0
     by_cases hs : (stepV f 0 a).2 = 0
     ·exact h2 (nms_step hs).1
     ·rw [if_neg hs] at h0; exact hs h0
   ·rw [if_neg q] at h0; exact q h0
end Go.Proofs.YthknbpijaoljgaaGreatDoor
namespace Go.Proofs.YthknbpijaoljgaaGreatDoor
open Go.Sy
def dg (k i : Nat) : Nat := k / 2 ^ i % 2
def nthR (k : Nat) : Nat → Nat
 | 0 => 0
 | i + 1 => nthR k i + dg k i * 4 ^ i
theorem dg_lt (k i : Nat) : dg k i < 2 := Nat.mod_lt _ (by decide)
theorem nthR_lt (k : Nat) : ∀ i, nthR k i < 4 ^ i
 | 0 => (by show 0 < 4 ^ 0; decide)
 | i + 1 => by
  have h1 := nthR_lt k i
  have h2 := dg_lt k i
  show nthR k i + dg k i * 4 ^ i < 4 ^ (i + 1)
  rw [Nat.pow_succ]
  have : dg k i * 4 ^ i ≤ 1 * 4 ^ i := Nat.mul_le_mul_right _ (by omega)
  omega
theorem nthR_or (k i : Nat) : nthR k i ||| dg k i * 4 ^ i = nthR k (i + 1) := by
 have h1 := nthR_lt k i
 have h4 : 4 ^ i = 2 ^ (2 * i) := by rw [Nat.pow_mul]
 show _ = nthR k i + dg k i * 4 ^ i
 rw [h4] at h1 ⊢
 rw [Nat.or_comm, Nat.mul_comm, ← Nat.two_pow_add_eq_or_of_lt h1, Nat.add_comm]
def cpw (i : Nat) : Nat := 2 ^ i
theorem cpw_succ (i : Nat) : cpw (i + 1) = cpw i * 2 := Nat.pow_succ ..
theorem cpw_le {i : Nat} (h : i ≤ 8) : 1 ≤ cpw i ∧ cpw i ≤ 256 := by
 have : ∀ i ≤ 8, 1 ≤ cpw i ∧ cpw i ≤ 256 := by decide
 exact this i h
theorem p4_le {i : Nat} (h : i ≤ 8) : 4 ^ i ≤ 65536 := by
 have : ∀ i ≤ 8, 4 ^ i ≤ 65536 := by decide
 exact this i h
theorem LetI.as {e z : Int} {K : Int → Prop} (h : e = z) (hK : K z) : LetI e K := ⟨h ▸ hK⟩
theorem letI_id {e : Int} {K : Int → Prop} (h : LetI e K) : LetI e K := h
theorem u64_wrap {e : Int} (h : 0 ≤ e ∧ e ≤ 18446744073709551615) : IntKind.u64.wrap e = e := by
 have := LetI.u64 (K := fun z => z = e) h rfl
 exact this.run
theorem or64 {a b c : Nat} (ha : a ≤ 18446744073709551615) (hb : b ≤ 18446744073709551615) (hc : c ≤ 18446744073709551615) (h : a ||| b = c) : IntKind.u64.wrap (BitVec.ofInt IntKind.u64.bits (a : Int) ||| BitVec.ofInt IntKind.u64.bits (b : Int)).toNat = (c : Int) := by
 have e : (BitVec.ofInt IntKind.u64.bits (a : Int) ||| BitVec.ofInt IntKind.u64.bits (b : Int)).toNat = c := by
  show (BitVec.ofInt 64 (a : Int) ||| BitVec.ofInt 64 (b : Int)).toNat = c
  rw [BitVec.toNat_or, BitVec.ofInt_natCast, BitVec.ofInt_natCast, BitVec.toNat_ofNat, BitVec.toNat_ofNat, Nat.mod_eq_of_lt (by omega), Nat.mod_eq_of_lt (by omega), h]
 rw [e, u64_wrap (by omega)]
theorem and64 {a b c : Nat} (ha : a ≤ 18446744073709551615) (hb : b ≤ 18446744073709551615) (h : a &&& b = c) : IntKind.u64.wrap (BitVec.ofInt IntKind.u64.bits (a : Int) &&& BitVec.ofInt IntKind.u64.bits (b : Int)).toNat = (c : Int) := by
 have e : (BitVec.ofInt IntKind.u64.bits (a : Int) &&& BitVec.ofInt IntKind.u64.bits (b : Int)).toNat = c := by
  show (BitVec.ofInt 64 (a : Int) &&& BitVec.ofInt 64 (b : Int)).toNat = c
  rw [BitVec.toNat_and, BitVec.ofInt_natCast, BitVec.ofInt_natCast, BitVec.toNat_ofNat, BitVec.toNat_ofNat, Nat.mod_eq_of_lt (by omega), Nat.mod_eq_of_lt (by omega), h]
 have : c ≤ a := h ▸ Nat.and_le_left
 rw [e, u64_wrap (by omega)]
theorem cbase_ok : FnC Tryz.prog 167 [.d (.bl false)] (.d (.it .u64 2)) := by
 refine FnC.intro ti_ok Tryz.func167 rfl Tryz.ntmps167 Tryz.call167 rfl (Nat.le_of_ble_eq_true rfl) rfl ?_
 (repeat' ((conv=>whnf);first|with_reducible refine gA ?_|(with_reducible first|refine gB ?_|refine gZ (fun x hx hu=>?_)|refine gY (fun x hx=>?_)|refine gE ?_|refine Both.mk ?_ ?_|refine gS (fun h=>?_) (fun h=>?_)|refine Spl.nt ?_|refine Spl.mk (fun h=>?_) (fun h=>?_))))
 rfl
set_option maxHeartbeats 2000000 in
theorem ccount_ok (n : Nat) (hn : n ≤ 8) : FnC Tryz.prog 129 [.d (.it .i64 (n : Nat)), .d (.bl false)] (.d (.it .u64 (cpw n : Nat))) := by
 have hb := cbase_ok
 refine FnC.intro ti_ok Tryz.func129 rfl Tryz.ntmps129 Tryz.call129 rfl (Nat.le_of_ble_eq_true rfl) rfl ?_
 (repeat' ((conv=>whnf);first|with_reducible refine gA ?_|(with_reducible first|refine gB ?_|refine gZ (fun x hx hu=>?_)|refine gY (fun x hx=>?_)|refine gE ?_|refine Both.mk ?_ ?_|refine gS (fun h=>?_) (fun h=>?_)|refine Spl.nt ?_|refine Spl.mk (fun h=>?_) (fun h=>?_))))
 all_goals first | (exfalso; omega) | skip
 all_goals (
  refine loop_rule ti_ok (fun i : Nat => i ≤ n) (fun i => ⟨[(1, .d (.bl false)), (5, .d (.it .u64 (cpw i : Nat))), (12, .d (.it .i64 (n : Nat))), (13, .d (.it .i64 (i : Nat)))], [], 0⟩) (fun i => n - i) 0 (Nat.zero_le _) ⟨And.intro rfl (And.intro rfl (And.intro rfl (And.intro rfl trivial))), trivial, rfl⟩ ?_
  intro i hi
  have hpi := cpw_le (show i ≤ 8 by omega)
  by_cases hin : i < n
  ·(repeat' ((conv=>whnf);first|with_reducible refine gA ?_|((with_reducible refine callE_id ?_); refine CallE.con ⟨_, hb, ?_⟩) | with_reducible refine CallP.mk ⟨_, hb, ?_⟩|(with_reducible first|refine gB ?_|refine gZ (fun x hx hu=>?_)|refine gY (fun x hx=>?_)|refine gE ?_|refine Both.mk ?_ ?_|refine gS (fun h=>?_) (fun h=>?_)|refine Spl.nt ?_|refine Spl.mk (fun h=>?_) (fun h=>?_))))
   refine again (i + 1) hin (by first | omega | (dsimp only; omega)) (And.intro rfl (And.intro (it_eq (by rw [cpw_succ]; omega)) (And.intro rfl (And.intro (it_eq (by omega)) trivial)))) trivial rfl
  ·(repeat' ((conv=>whnf);first|with_reducible refine gA ?_|(with_reducible first|refine gB ?_|refine gZ (fun x hx hu=>?_)|refine gY (fun x hx=>?_)|refine gE ?_|refine Both.mk ?_ ?_|refine gS (fun h=>?_) (fun h=>?_)|refine Spl.nt ?_|refine Spl.mk (fun h=>?_) (fun h=>?_))))
   exact it_eq (by rw [show i = n by omega]))
end Go.Proofs.YthknbpijaoljgaaGreatDoor
namespace Go.Proofs.YthknbpijaoljgaaGreatDoor
open Go.Sy
theorem chas_ok (i : Nat) (h : i < 32) : FnC Tryz.prog 108 [.d (.it .i64 (i : Nat))] (.d (.bl true)) := by
 refine FnC.intro ti_ok Tryz.func108 rfl Tryz.ntmps108 Tryz.call108 rfl (Nat.le_of_ble_eq_true rfl) rfl ?_
 (repeat' ((conv=>whnf);first|with_reducible refine gA ?_|(with_reducible first|refine gB ?_|refine gZ (fun x hx hu=>?_)|refine gY (fun x hx=>?_)|refine gE ?_|refine Both.mk ?_ ?_|refine gS (fun h=>?_) (fun h=>?_)|refine Spl.nt ?_|refine Spl.mk (fun h=>?_) (fun h=>?_))))
 all_goals first | (exfalso; omega) | exact bl_eq (by simp; omega)
theorem shr_ok (c i : Nat) (h : i < 32) : Int.fdiv (c : Int) (2 ^ (min ((2 * (i : Int)).toNat) IntKind.u64.bits)) = ((c / 4 ^ i : Nat) : Int) := by
 have e : min ((2 * (i : Int)).toNat) IntKind.u64.bits = 2 * i := by
  show min ((2 * (i : Int)).toNat) 64 = 2 * i
  omega
 have e2 : ((2 : Int) ^ (2 * i)) = ((4 ^ i : Nat) : Int) := by rw [show (4 : Nat) ^ i = 2 ^ (2 * i) by rw [Nat.pow_mul], Int.natCast_pow]; rfl
 rw [e, e2, Int.fdiv_eq_ediv_of_nonneg _ (Int.natCast_nonneg _)]
 rfl
set_option maxHeartbeats 2000000 in
theorem fate_ok (c i : Nat) (hc : c ≤ 65535) (h : i < 32) : FnC Tryz.prog 67 [.d (.it .u64 (c : Nat)), .d (.it .i64 (i : Nat))] (.d (.it .i64 (c / 4 ^ i % 4 : Nat))) := by
 have hb := chas_ok i h
 have h1 : c / 4 ^ i ≤ c := Nat.div_le_self ..
 have h2 : c / 4 ^ i &&& 3 = c / 4 ^ i % 4 := Nat.and_two_pow_sub_one_eq_mod (c / 4 ^ i) 2
 have h3 := shr_ok c i h
 refine FnC.intro ti_ok Tryz.func67 rfl Tryz.ntmps67 Tryz.call67 rfl (Nat.le_of_ble_eq_true rfl) rfl ?_
 (repeat' ((conv=>whnf);first|with_reducible refine gA ?_|((with_reducible refine callE_id ?_); refine CallE.con ⟨_, hb, ?_⟩) | with_reducible refine CallP.mk ⟨_, hb, ?_⟩ | ((with_reducible refine letI_id ?_); first | refine LetI.as (u64_wrap (by omega)) ?_ | refine LetI.as h3 ?_ | refine LetI.as (and64 (b := 3) (by omega) (by omega) h2) ?_)|(with_reducible first|refine gB ?_|refine gZ (fun x hx hu=>?_)|refine gY (fun x hx=>?_)|refine gE ?_|refine Both.mk ?_ ?_|refine gS (fun h=>?_) (fun h=>?_)|refine Spl.nt ?_|refine Spl.mk (fun h=>?_) (fun h=>?_))))
 rfl
theorem nth_facts : ∀ n ≤ 8, ∀ k < 256, nthR k n &&& (nthR k n / 2) = 0 ∧ nthR k n / 4 ^ n = 0 ∧ ∀ i < n, nthR k n / 4 ^ i % 4 = dg k i := by decide +kernel
theorem nth_le {k n : Nat} (hn : n ≤ 8) : nthR k n ≤ 65535 := by
 have h1 := nthR_lt k n
 have h2 := p4_le hn
 omega
set_option maxHeartbeats 2000000 in
theorem right_ok (k n : Nat) (hn : n ≤ 8) (hk : k < 256) : FnC Tryz.prog 140 [.d (.it .u64 (nthR k n : Nat)), .d (.it .i64 (n : Nat))] (.d (.bl true)) := by
 have hc := nth_le (k := k) hn
 obtain ⟨h1, h2, _⟩ := nth_facts n hn k hk
 generalize nthR k n = c at *
 have h3 := shr_ok c n (by omega)
 rw [h2] at h3
 have h4 : Int.fdiv (c : Int) (2 ^ (min ((1 : Int)).toNat IntKind.u64.bits)) = ((c / 2 : Nat) : Int) := by
  show Int.fdiv (c : Int) 2 = _
  rw [Int.fdiv_eq_ediv_of_nonneg _ (by decide)]; rfl
 refine FnC.intro ti_ok Tryz.func140 rfl Tryz.ntmps140 Tryz.call140 rfl (Nat.le_of_ble_eq_true rfl) rfl ?_
 (repeat' ((conv=>whnf);first|with_reducible refine gA ?_|((with_reducible refine letI_id ?_); first | refine LetI.as (u64_wrap (by omega)) ?_ | refine LetI.as h3 ?_ | refine LetI.as h4 ?_ | refine LetI.as (and64 (b := c / 2) (by omega) (by omega) h1) ?_ | refine LetI.as (and64 (a := 0) (b := 6148914691236517205) (c := 0) (by decide) (by decide) (by decide)) ?_)|(with_reducible first|refine gB ?_|refine gZ (fun x hx hu=>?_)|refine gY (fun x hx=>?_)|refine gE ?_|refine Both.mk ?_ ?_|refine gS (fun h=>?_) (fun h=>?_)|refine Spl.nt ?_|refine Spl.mk (fun h=>?_) (fun h=>?_))))
 all_goals first | (exfalso; omega) | rfl
def kd (k i : Nat) : Nat := k / 2 ^ i
theorem kd_succ (k i : Nat) : kd k (i + 1) = kd k i / 2 := by unfold kd; rw [Nat.pow_succ, Nat.div_div_eq_div_mul]
theorem kd_le (k i : Nat) : kd k i ≤ k := Nat.div_le_self ..
theorem kd_dg (k i : Nat) : kd k i % 2 = dg k i := rfl
theorem shl_ok (k i : Nat) (hi : i ≤ 7) : IntKind.u64.wrap ((((kd k i : Nat) : Int) % 2) * 2 ^ (min ((2 * (i : Int)).toNat) IntKind.u64.bits)) = ((dg k i * 4 ^ i : Nat) : Int) := by
 have e : min ((2 * (i : Int)).toNat) IntKind.u64.bits = 2 * i := by
  show min ((2 * (i : Int)).toNat) 64 = 2 * i
  omega
 have e2 : ((2 : Int) ^ (2 * i)) = ((4 ^ i : Nat) : Int) := by rw [show (4 : Nat) ^ i = 2 ^ (2 * i) by rw [Nat.pow_mul], Int.natCast_pow]; rfl
 have e3 : (((kd k i : Nat) : Int) % 2) = ((dg k i : Nat) : Int) := by rw [← kd_dg]; rfl
 have h1 := dg_lt k i
 have h2 := p4_le (show i ≤ 8 by omega)
 have h3 : dg k i * 4 ^ i ≤ 1 * 4 ^ i := Nat.mul_le_mul_right _ (by omega)
 rw [e, e2, e3, ← Int.natCast_mul, u64_wrap (by omega)]
set_option maxHeartbeats 2000000 in
theorem cnth_ok (k n : Nat) (hn : n ≤ 8) (hk : k < cpw n) : FnC Tryz.prog 130 [.d (.it .u64 (k : Nat)), .d (.it .i64 (n : Nat)), .d (.bl false)] (.d (.it .u64 (nthR k n : Nat))) := by
 have hb := cbase_ok
 have hct := ccount_ok n hn
 have hpn := cpw_le hn
 refine FnC.intro ti_ok Tryz.func130 rfl Tryz.ntmps130 Tryz.call130 rfl (Nat.le_of_ble_eq_true rfl) rfl ?_
 (repeat' ((conv=>whnf);first|with_reducible refine gA ?_|((with_reducible refine callE_id ?_); first | refine CallE.con ⟨_, hct, ?_⟩ | refine CallE.con ⟨_, hb, ?_⟩)|(with_reducible first|refine gB ?_|refine gZ (fun x hx hu=>?_)|refine gY (fun x hx=>?_)|refine gE ?_|refine Both.mk ?_ ?_|refine gS (fun h=>?_) (fun h=>?_)|refine Spl.nt ?_|refine Spl.mk (fun h=>?_) (fun h=>?_))))
 all_goals first | (exfalso; omega) | skip
 refine loop_rule ti_ok (fun i : Nat => i ≤ n) (fun i => ⟨[(0, .d (.it .u64 (kd k i : Nat))), (2, .d (.bl false)), (7, .d (.it .u64 (nthR k i : Nat))), (14, .d (.it .i64 (n : Nat))), (15, .d (.it .i64 (i : Nat)))], [], 0⟩) (fun i => n - i) 0 (Nat.zero_le _) ⟨And.intro (it_eq (by show ((k : Nat) : Int) = ((k / 2 ^ 0 : Nat) : Int); rw [Nat.pow_zero, Nat.div_one])) (And.intro rfl (And.intro rfl (And.intro rfl (And.intro rfl trivial)))), trivial, rfl⟩ ?_
 intro i hi
 by_cases hin : i < n
 ·have hs := shl_ok k i (by omega)
  have hle := nth_le (k := k) (show i ≤ 8 by omega)
  have hle2 := nth_le (k := k) (show i + 1 ≤ 8 by omega)
  have hor := nthR_or k i
  have hd4 : dg k i * 4 ^ i ≤ 65535 := by
   have : nthR k (i + 1) = nthR k i + dg k i * 4 ^ i := rfl
   omega
  have hkd := kd_le k i
  have hkb : k ≤ 256 := by omega
  (repeat' ((conv=>whnf);first|with_reducible refine gA ?_|((with_reducible refine callE_id ?_); refine CallE.con ⟨_, hb, ?_⟩) | with_reducible refine CallP.mk ⟨_, hb, ?_⟩ | ((with_reducible refine letI_id ?_); first | refine LetI.as (u64_wrap (by omega)) ?_ | refine LetI.as hs ?_ | refine LetI.as (or64 (by omega) (by omega) (by omega) hor) ?_)|(with_reducible first|refine gB ?_|refine gZ (fun x hx hu=>?_)|refine gY (fun x hx=>?_)|refine gE ?_|refine Both.mk ?_ ?_|refine gS (fun h=>?_) (fun h=>?_)|refine Spl.nt ?_|refine Spl.mk (fun h=>?_) (fun h=>?_))))
  refine again (i + 1) hin (by first | omega | (dsimp only; omega)) (And.intro (it_eq (by rw [kd_succ]; omega)) (And.intro rfl (And.intro rfl (And.intro rfl (And.intro (it_eq (by omega)) trivial))))) trivial rfl
 ·(repeat' ((conv=>whnf);first|with_reducible refine gA ?_|(with_reducible first|refine gB ?_|refine gZ (fun x hx hu=>?_)|refine gY (fun x hx=>?_)|refine gE ?_|refine Both.mk ?_ ?_|refine gS (fun h=>?_) (fun h=>?_)|refine Spl.nt ?_|refine Spl.mk (fun h=>?_) (fun h=>?_))))
  exact it_eq (by rw [show i = n by omega])
end Go.Proofs.YthknbpijaoljgaaGreatDoor
namespace Go.Proofs.YthknbpijaoljgaaGreatDoor
open Go.Sy
def AlwP (es : List Int) (k : Nat) : Prop := ∀ i, i < es.length → ∀ j, j < es.length → dg k j ≠ 0 → es.getD i 0 < es.getD j 0 → dg k i = 1
instance (es : List Int) (k : Nat) : Decidable (AlwP es k) := by unfold AlwP; infer_instance
def LowP (es : List Int) (k t : Nat) (low : Int) (some : Bool) : Prop := (some = false → ∀ j < t, dg k j = 0) ∧ (some = true → (∃ j < t, dg k j ≠ 0 ∧ es.getD j 0 = low) ∧ ∀ j < t, dg k j ≠ 0 → es.getD j 0 ≤ low)
theorem low_keep {es : List Int} {k t : Nat} {low : Int} {s : Bool} (h : LowP es k t low s) (h1 : dg k t = 0 ∨ s = true ∧ es.getD t 0 ≤ low) : LowP es k (t + 1) low s := by
 refine ⟨fun hs j hj => ?_, fun hs => ⟨?_, fun j hj hd => ?_⟩⟩
 ·rcases Nat.lt_or_ge j t with hjt | hjt
  ·exact h.1 hs j hjt
  ·rw [show j = t by omega]
   rcases h1 with h1 | h1
   ·exact h1
   ·rw [hs] at h1; cases h1.1
 ·obtain ⟨j, h2, h3⟩ := (h.2 hs).1
  exact ⟨j, by omega, h3⟩
 ·rcases Nat.lt_or_ge j t with hjt | hjt
  ·exact (h.2 hs).2 j hjt hd
  ·have : j = t := by omega
   subst this
   rcases h1 with h1 | h1
   ·exact absurd h1 hd
   ·exact h1.2
theorem low_new {es : List Int} {k t : Nat} {low : Int} {s : Bool} (h : LowP es k t low s) (h1 : dg k t ≠ 0) (h2 : s = false ∨ low < es.getD t 0) : LowP es k (t + 1) (es.getD t 0) true := by
 refine ⟨fun hs => (by cases hs), fun _ => ⟨⟨t, by omega, h1, rfl⟩, fun j hj hd => ?_⟩⟩
 rcases Nat.lt_or_ge j t with hjt | hjt
 ·rcases h2 with h2 | h2
  ·exact absurd (h.1 h2 j hjt) hd
  ·cases s with
   | false => exact absurd (h.1 rfl j hjt) hd
   | true => have := (h.2 rfl).2 j hjt hd; omega
 ·rw [show j = t by omega]; exact Int.le_refl _
def OkP (es : List Int) (k : Nat) (low : Int) (s : Bool) (t : Nat) : Prop := ∀ i < t, s = true → es.getD i 0 < low → dg k i = 1
theorem alw_of {es : List Int} {k : Nat} {low : Int} {s : Bool} (h : LowP es k es.length low s) : AlwP es k ↔ OkP es k low s es.length := by
 constructor
 ·intro ha i hi hs hlt
  obtain ⟨⟨j, hj, hd, he⟩, _⟩ := h.2 hs
  exact ha i hi j hj hd (by omega)
 ·intro ho i hi j hj hd hlt
  cases s with
  | false => exact absurd (h.1 rfl j hj) hd
  | true =>
   have := (h.2 rfl).2 j hj hd
   exact ho i hi rfl (by omega)
theorem getD_of {es : List Int} {i : Nat} {x : Int} (h : es[i]? = some x) : es.getD i 0 = x := by rw [List.getD_eq_getElem?_getD, h]; rfl
def alA (es : List Int) (c t : Nat) (low : Int) (s : Bool) : S := ⟨[(0, .d (.it .u64 (c : Nat))), (1, .d (.fs 1 (vI es))), (5, .d (.it .i64 low)), (6, .d (.bl s)), (16, .d (.fs 1 (vI es))), (17, .d (.it .i64 (es.length : Nat))), (18, .d (.it .i64 (t : Nat)))], [], 0⟩
def alB (es : List Int) (c t : Nat) (low : Int) (s : Bool) : S := ⟨[(0, .d (.it .u64 (c : Nat))), (5, .d (.it .i64 low)), (6, .d (.bl s)), (38, .d (.fs 1 (vI es))), (39, .d (.it .i64 (es.length : Nat))), (40, .d (.it .i64 (t : Nat)))], [], 0⟩
set_option maxHeartbeats 8000000 in
theorem calw_ok (es : List Int) (hn : es.length ≤ 8) (k : Nat) (hk : k < 256) : FnC Tryz.prog 106 [.d (.it .u64 (nthR k es.length : Nat)), .d (.fs 1 (vI es))] (.d (.bl (decide (AlwP es k)))) := by
 have hv : (vI es).length = es.length := List.length_map ..
 have hr : FnC Tryz.prog 140 [.d (.it .u64 (nthR k es.length : Nat)), .d (.it .i64 ((vI es).length : Nat))] (.d (.bl true)) := by rw [hv]; exact right_ok k es.length hn hk
 have hL0 : LowP es k 0 0 false := ⟨fun _ j hj => absurd hj (by omega), fun h => (by cases h)⟩
 have hle := nth_le (k := k) hn
 have hf : ∀ i, i < es.length → FnC Tryz.prog 67 [.d (.it .u64 (nthR k es.length : Nat)), .d (.it .i64 (i : Nat))] (.d (.it .i64 (dg k i : Nat))) := fun i hi => by
  have := fate_ok (nthR k es.length) i hle (by omega)
  rwa [(nth_facts es.length hn k hk).2.2 i hi] at this
 generalize nthR k es.length = c at *
 refine FnC.intro ti_ok Tryz.func106 rfl Tryz.ntmps106 Tryz.call106 rfl (Nat.le_of_ble_eq_true rfl) rfl ?_
 (repeat' ((conv=>whnf);first|with_reducible refine gA ?_|((with_reducible refine callE_id ?_); refine CallE.con ⟨_, hr, ?_⟩)|(with_reducible first|refine gB ?_|refine gZ (fun x hx hu=>?_)|refine gY (fun x hx=>?_)|refine gE ?_|refine Both.mk ?_ ?_|refine gS (fun h=>?_) (fun h=>?_)|refine Spl.nt ?_|refine Spl.mk (fun h=>?_) (fun h=>?_))))
 refine loop_rule ti_ok (fun x : Nat × Int × Bool => x.1 ≤ es.length ∧ LowP es k x.1 x.2.1 x.2.2) (fun x => alA es c x.1 x.2.1 x.2.2) (fun x => es.length - x.1) (0, 0, false) ⟨Nat.zero_le _, hL0⟩ ⟨And.intro rfl (And.intro rfl (And.intro rfl (And.intro rfl (And.intro rfl (And.intro (it_eq (by rw [hv])) (And.intro rfl trivial)))))), trivial, rfl⟩ ?_
 rintro ⟨t, low, s⟩ ⟨ht, hL⟩
 dsimp only at ht hL
 by_cases htn : t < es.length
 ·obtain ⟨x, hx⟩ := lt_get htn
  have hft := hf t htn
  have hgx := getD_of hx
  have hd2 := dg_lt k t
  unfold alA vI
  unfold vI at hv
  cases s with
  | false =>
   (repeat' ((conv=>whnf);first|with_reducible refine gA ?_|((with_reducible refine callE_id ?_); refine CallE.con ⟨_, hft, ?_⟩) | with_reducible refine CallP.mk ⟨_, hft, ?_⟩|(with_reducible first|refine gB ?_|refine gZ (fun x hx hu=>?_)|refine gY (fun x hx=>?_)|refine gE ?_|refine Both.mk ?_ ?_|refine gS (fun h=>?_) (fun h=>?_)|refine Spl.nt ?_|refine Spl.mk (fun h=>?_) (fun h=>?_))))
   ·refine again (t + 1, x, true) ⟨htn, hgx ▸ low_new hL (by omega) (.inl rfl)⟩ (by first | omega | (dsimp only; omega)) (And.intro rfl (And.intro rfl (And.intro rfl (And.intro rfl (And.intro rfl (And.intro rfl (And.intro (it_eq (by dsimp only; omega)) trivial))))))) trivial rfl
   ·refine again (t + 1, low, false) ⟨htn, low_keep hL (.inl (by omega))⟩ (by first | omega | (dsimp only; omega)) (And.intro rfl (And.intro rfl (And.intro rfl (And.intro rfl (And.intro rfl (And.intro rfl (And.intro (it_eq (by dsimp only; omega)) trivial))))))) trivial rfl
  | true =>
   (repeat' ((conv=>whnf);first|with_reducible refine gA ?_|((with_reducible refine callE_id ?_); refine CallE.con ⟨_, hft, ?_⟩) | with_reducible refine CallP.mk ⟨_, hft, ?_⟩|(with_reducible first|refine gB ?_|refine gZ (fun x hx hu=>?_)|refine gY (fun x hx=>?_)|refine gE ?_|refine Both.mk ?_ ?_|refine gS (fun h=>?_) (fun h=>?_)|refine Spl.nt ?_|refine Spl.mk (fun h=>?_) (fun h=>?_))))
   ·refine again (t + 1, x, true) ⟨htn, hgx ▸ low_new hL (by omega) (.inr (by dsimp only at *; omega))⟩ (by first | omega | (dsimp only; omega)) (And.intro rfl (And.intro rfl (And.intro rfl (And.intro rfl (And.intro rfl (And.intro rfl (And.intro (it_eq (by dsimp only; omega)) trivial))))))) trivial rfl
   ·refine again (t + 1, low, true) ⟨htn, low_keep hL (.inr ⟨rfl, by dsimp only at *; omega⟩)⟩ (by first | omega | (dsimp only; omega)) (And.intro rfl (And.intro rfl (And.intro rfl (And.intro rfl (And.intro rfl (And.intro rfl (And.intro (it_eq (by dsimp only; omega)) trivial))))))) trivial rfl
   ·refine again (t + 1, low, true) ⟨htn, low_keep hL (.inl (by omega))⟩ (by first | omega | (dsimp only; omega)) (And.intro rfl (And.intro rfl (And.intro rfl (And.intro rfl (And.intro rfl (And.intro rfl (And.intro (it_eq (by dsimp only; omega)) trivial))))))) trivial rfl
 ·have htl : t = es.length := by omega
  subst htl
  have hA := alw_of hL
  unfold alA
  (repeat' ((conv=>whnf);first|with_reducible refine gA ?_|(with_reducible first|refine gB ?_|refine gZ (fun x hx hu=>?_)|refine gY (fun x hx=>?_)|refine gE ?_|refine Both.mk ?_ ?_|refine gS (fun h=>?_) (fun h=>?_)|refine Spl.nt ?_|refine Spl.mk (fun h=>?_) (fun h=>?_))))
  refine loop_rule ti_ok (fun q : Nat => q ≤ es.length ∧ OkP es k low s q) (fun q => alB es c q low s) (fun q => es.length - q) 0 ⟨Nat.zero_le _, fun i hi => absurd hi (by omega)⟩ ⟨And.intro rfl (And.intro rfl (And.intro rfl (And.intro rfl (And.intro (it_eq (by rw [hv])) (And.intro rfl trivial))))), trivial, rfl⟩ ?_
  intro q ⟨hq, hO⟩
  by_cases hqn : q < es.length
  ·obtain ⟨x, hx⟩ := lt_get hqn
   have hft := hf q hqn
   have hgx := getD_of hx
   have hd2 := dg_lt k q
   have step : (s = true → x < low → dg k q = 1) → OkP es k low s (q + 1) := fun h i hi hs hlt => by
    rcases Nat.lt_or_ge i q with hiq | hiq
    ·exact hO i hiq hs hlt
    ·have : i = q := by omega
     subst this
     exact h hs (by omega)
   have stop : s = true → x < low → dg k q ≠ 1 → ¬ AlwP es k := fun hs hlt hd ha => hd ((hA.1 ha) q hqn hs (by omega))
   unfold alB vI
   unfold vI at hv
   cases s with
   | false =>
    (repeat' ((conv=>whnf);first|with_reducible refine gA ?_|((with_reducible refine callE_id ?_); refine CallE.con ⟨_, hft, ?_⟩) | with_reducible refine CallP.mk ⟨_, hft, ?_⟩|(with_reducible first|refine gB ?_|refine gZ (fun x hx hu=>?_)|refine gY (fun x hx=>?_)|refine gE ?_|refine Both.mk ?_ ?_|refine gS (fun h=>?_) (fun h=>?_)|refine Spl.nt ?_|refine Spl.mk (fun h=>?_) (fun h=>?_))))
    refine again (q + 1) ⟨hqn, step (fun h => by cases h)⟩ (by first | omega | (dsimp only; omega)) (And.intro rfl (And.intro rfl (And.intro rfl (And.intro rfl (And.intro rfl (And.intro (it_eq (by omega)) trivial)))))) trivial rfl
   | true =>
    (repeat' ((conv=>whnf);first|with_reducible refine gA ?_|((with_reducible refine callE_id ?_); refine CallE.con ⟨_, hft, ?_⟩) | with_reducible refine CallP.mk ⟨_, hft, ?_⟩|(with_reducible first|refine gB ?_|refine gZ (fun x hx hu=>?_)|refine gY (fun x hx=>?_)|refine gE ?_|refine Both.mk ?_ ?_|refine gS (fun h=>?_) (fun h=>?_)|refine Spl.nt ?_|refine Spl.mk (fun h=>?_) (fun h=>?_))))
    ·exact bl_ff (stop rfl (by omega) (by omega))
    ·refine again (q + 1) ⟨hqn, step (fun _ _ => by omega)⟩ (by first | omega | (dsimp only; omega)) (And.intro rfl (And.intro rfl (And.intro rfl (And.intro rfl (And.intro rfl (And.intro (it_eq (by omega)) trivial)))))) trivial rfl
    ·refine again (q + 1) ⟨hqn, step (fun _ _ => by omega)⟩ (by first | omega | (dsimp only; omega)) (And.intro rfl (And.intro rfl (And.intro rfl (And.intro rfl (And.intro rfl (And.intro (it_eq (by omega)) trivial)))))) trivial rfl
  ·have hql : q = es.length := by omega
   subst hql
   unfold alB
   (repeat' ((conv=>whnf);first|with_reducible refine gA ?_|(with_reducible first|refine gB ?_|refine gZ (fun x hx hu=>?_)|refine gY (fun x hx=>?_)|refine gE ?_|refine Both.mk ?_ ?_|refine gS (fun h=>?_) (fun h=>?_)|refine Spl.nt ?_|refine Spl.mk (fun h=>?_) (fun h=>?_))))
   exact bl_tt (hA.2 hO)
end Go.Proofs.YthknbpijaoljgaaGreatDoor
namespace Go.Proofs.YthknbpijaoljgaaGreatDoor
open Go.Sy
section
variable {R : List Nat} {n b : Nat} {ty : Ty} {off i j : Nat}
end
end Go.Proofs.YthknbpijaoljgaaGreatDoor
namespace Go.Proofs.YthknbpijaoljgaaGreatDoor
open Go.Sy
end Go.Proofs.YthknbpijaoljgaaGreatDoor
namespace Go.Proofs.YthknbpijaoljgaaGreatDoor
open Go.Sy
end Go.Proofs.YthknbpijaoljgaaGreatDoor
namespace Go.Proofs.YthknbpijaoljgaaGreatDoor
open Go.Sy
def esW (ws : List Wr) : List Int := ws.map (·.e)
theorem esW_len (ws : List Wr) : (esW ws).length = ws.length := List.length_map ..
theorem esW_snoc {ws : List Wr} {i : Nat} {x : Wr} (hx : ws[i]? = some x) : vI (esW (ws.take (i + 1))) = vI (esW (ws.take i)) ++ [[.it .i64 x.e]] := by
 rw [take_snoc hx]
 unfold esW vI
 rw [List.map_append, List.map_append]; rfl
def encSt (m : List (List UInt8)) (ws : List Wr) : List D := [.fs 32 (m.map encS), .fs 36 (ws.map encW)]
def epA (ws : List Wr) (i : Nat) : S := ⟨[(3, .ts 1 (vI (esW (ws.take i))) 2), (7, .d (.fs 36 (ws.map encW))), (8, .d (.it .i64 (ws.length : Nat))), (9, .d (.it .i64 (i : Nat)))], [(2, .tail 3 true)], 3⟩
set_option maxHeartbeats 4000000 in
theorem cepo_ok (m : List (List UInt8)) (ws : List Wr) (hw : WsOK ws) (hwl : ws.length ≤ 1000) : FnC Tryz.prog 69 [.dg 2 (encSt m ws)] (.d (.fs 1 (vI (esW ws)))) := by
 have hwl' : (ws.map encW).length = ws.length := List.length_map ..
 refine FnC.intro ti_ok Tryz.func69 rfl Tryz.ntmps69 Tryz.call69 rfl (Nat.le_of_ble_eq_true rfl) rfl ?_
 (repeat' ((conv=>whnf);first|with_reducible refine gA ?_|(with_reducible first|refine gB ?_|refine gZ (fun x hx hu=>?_)|refine gY (fun x hx=>?_)|refine gE ?_|refine Both.mk ?_ ?_|refine gS (fun h=>?_) (fun h=>?_)|refine Spl.nt ?_|refine Spl.mk (fun h=>?_) (fun h=>?_))))
 conv => whnf
 refine loop_rule ti_ok (fun i : Nat => i ≤ ws.length) (epA ws) (fun i => ws.length - i) 0 (Nat.zero_le _) ⟨And.intro rfl (And.intro rfl (And.intro (it_eq (by rw [hwl'])) (And.intro rfl trivial))), And.intro rfl trivial, rfl⟩ ?_
 intro i hi
 have hel : (vI (esW (ws.take i))).length ≤ 1000 := by
  show (List.map _ (List.map _ _)).length ≤ _
  rw [List.length_map, List.length_map, List.length_take]; omega
 rcases Nat.lt_or_ge i ws.length with hil | hil
 ·obtain ⟨x, hx⟩ := lt_get hil
  have hxs := hw x (List.mem_of_getElem? hx)
  have hsn := esW_snoc hx
  obtain ⟨xa, xs, xk, xi, xe⟩ := x
  obtain ⟨g, rfl⟩ := is32 hxs
  (repeat' ((conv=>whnf);first|with_reducible refine gA ?_|with_reducible refine at_hm hx ?_ | with_reducible refine AtA.mk' ?_|(with_reducible first|refine gB ?_|refine gZ (fun x hx hu=>?_)|refine gY (fun x hx=>?_)|refine gE ?_|refine Both.mk ?_ ?_|refine gS (fun h=>?_) (fun h=>?_)|refine Spl.nt ?_|refine Spl.mk (fun h=>?_) (fun h=>?_))))
  refine again (i + 1) hil (by first | omega | (dsimp only; omega)) (And.intro (ts_eq hsn.symm) (And.intro rfl (And.intro rfl (And.intro (it_eq (by omega)) trivial)))) (And.intro rfl trivial) rfl
 ·have hie : i = ws.length := by omega
  (repeat' ((conv=>whnf);first|with_reducible refine gA ?_|(with_reducible first|refine gB ?_|refine gZ (fun x hx hu=>?_)|refine gY (fun x hx=>?_)|refine gE ?_|refine Both.mk ?_ ?_|refine gS (fun h=>?_) (fun h=>?_)|refine Spl.nt ?_|refine Spl.mk (fun h=>?_) (fun h=>?_))))
  refine fs_eq ?_
  rw [hie, List.take_length]
theorem calws_ok (m : List (List UInt8)) (ws : List Wr) (hw : WsOK ws) (hwl : ws.length ≤ 8) (k : Nat) (hk : k < 256) : FnC Tryz.prog 64 [.dg 2 (encSt m ws), .d (.it .u64 (nthR k ws.length : Nat))] (.d (.bl (decide (AlwP (esW ws) k)))) := by
 have h1 := cepo_ok m ws hw (by omega)
 have h2 := calw_ok (esW ws) (by rw [esW_len]; exact hwl) k hk
 rw [esW_len] at h2
 refine FnC.intro ti_ok Tryz.func64 rfl Tryz.ntmps64 Tryz.call64 rfl (Nat.le_of_ble_eq_true rfl) rfl ?_
 (repeat' ((conv=>whnf);first|with_reducible refine gA ?_|((with_reducible refine callE_id ?_); first | refine CallE.con ⟨_, h1, ?_⟩ | refine CallE.con ⟨_, h2, ?_⟩)|(with_reducible first|refine gB ?_|refine gZ (fun x hx hu=>?_)|refine gY (fun x hx=>?_)|refine gE ?_|refine Both.mk ?_ ?_|refine gS (fun h=>?_) (fun h=>?_)|refine Spl.nt ?_|refine Spl.mk (fun h=>?_) (fun h=>?_))))
 rfl
end Go.Proofs.YthknbpijaoljgaaGreatDoor
namespace Go.Proofs.YthknbpijaoljgaaGreatDoor
open Go.Sy
def allK (ws : List Wr) (t : Nat) : List Nat := (List.range t).filter fun k => decide (AlwP (esW ws) k)
def vU (l : List Nat) : List (List D) := l.map fun z => [.it .u64 (z : Nat)]
def numK (ws : List Wr) (t : Nat) : List (List D) := vU ((allK ws t).map fun k => nthR k ws.length)
theorem allK_succ (ws : List Wr) (t : Nat) : allK ws (t + 1) = if AlwP (esW ws) t then allK ws t ++ [t] else allK ws t := by
 unfold allK
 rw [List.range_succ, List.filter_append]
 by_cases h : AlwP (esW ws) t
 ·rw [if_pos h]; simp [h]
 ·rw [if_neg h]; simp [h]
theorem allK_len (ws : List Wr) (t : Nat) : (allK ws t).length ≤ t := by
 unfold allK
 exact Nat.le_trans (List.length_filter_le _ _) (by rw [List.length_range]; exact Nat.le_refl _)
theorem numK_len (ws : List Wr) (t : Nat) : (numK ws t).length ≤ t := by
 unfold numK vU
 rw [List.length_map, List.length_map]; exact allK_len ws t
theorem numK_yes {ws : List Wr} {t : Nat} (h : AlwP (esW ws) t) : numK ws (t + 1) = numK ws t ++ [[.it .u64 (nthR t ws.length : Nat)]] := by
 unfold numK vU
 rw [allK_succ, if_pos h, List.map_append, List.map_append]; rfl
theorem numK_no {ws : List Wr} {t : Nat} (h : ¬ AlwP (esW ws) t) : numK ws (t + 1) = numK ws t := by
 unfold numK
 rw [allK_succ, if_neg h]
set_option maxHeartbeats 8000000 in
theorem call_no (m : List (List UInt8)) (ws : List Wr) (hwl : ¬ ws.length ≤ 8) : FnC Tryz.prog 53 [.dg 2 (encSt m ws), .d (.bl false), .d (.it .i64 65536)] (.tup [.d (.fs 0 []), .d (.bl false)]) := by
 have hwl' : (ws.map encW).length = ws.length := List.length_map ..
 refine FnC.intro ti_ok Tryz.func53 rfl Tryz.ntmps53 Tryz.call53 rfl (Nat.le_of_ble_eq_true rfl) rfl ?_
 (repeat' ((conv=>whnf);first|with_reducible refine gA ?_|(with_reducible first|refine gB ?_|refine gZ (fun x hx hu=>?_)|refine gY (fun x hx=>?_)|refine gE ?_|refine Both.mk ?_ ?_|refine gS (fun h=>?_) (fun h=>?_)|refine Spl.nt ?_|refine Spl.mk (fun h=>?_) (fun h=>?_))))
 all_goals first | (exfalso; omega) | rfl
end Go.Proofs.YthknbpijaoljgaaGreatDoor
namespace Go.Proofs.YthknbpijaoljgaaGreatDoor
open Go.Sy
end Go.Proofs.YthknbpijaoljgaaGreatDoor
namespace Go.Proofs.YthknbpijaoljgaaGreatDoor
open Go.Sy
end Go.Proofs.YthknbpijaoljgaaGreatDoor
namespace Go.Proofs.YthknbpijaoljgaaGreatDoor
open Go.Sy
def accD (f : Int → List UInt8) (x : Ino) (k : Nat) : List UInt8 := (dataV f x).take (32 * k)
def blkI (x : Ino) : Nat → Int
 | 0 => x.b0
 | 1 => x.b1
 | 2 => x.b2
 | _ => x.b3
theorem acc_step {f : Int → List UInt8} (hf : ∀ n, (f n).length = 32) (x : Ino) {k m : Nat} (hk : k < 4) (hm : (m : Int) = min 32 (x.z - 32 * (k : Int))) (hz : 32 * (k : Int) < x.z) : accD f x (k + 1) = accD f x k ++ (f (40 + blkI x k)).take m := by
 have hc : ((f (40 + x.b0) ++ f (40 + x.b1) ++ f (40 + x.b2) ++ f (40 + x.b3)).drop (32 * k)).take 32 = f (40 + blkI x k) := by
  have h0 := hf (40 + x.b0)
  have h1 := hf (40 + x.b1)
  have h2 := hf (40 + x.b2)
  have h3 := hf (40 + x.b3)
  have hk' : k = 0 ∨ k = 1 ∨ k = 2 ∨ k = 3 := by omega
  rcases hk' with rfl | rfl | rfl | rfl
  ·show ((f (40 + x.b0) ++ f (40 + x.b1) ++ f (40 + x.b2) ++ f (40 + x.b3)).drop 0).take 32 = f (40 + x.b0)
   rw [List.drop_zero, List.append_assoc, List.append_assoc, List.take_left' h0]
  ·show ((f (40 + x.b0) ++ f (40 + x.b1) ++ f (40 + x.b2) ++ f (40 + x.b3)).drop 32).take 32 = f (40 + x.b1)
   rw [List.append_assoc, List.append_assoc, List.drop_left' h0, List.take_left' h1]
  ·show ((f (40 + x.b0) ++ f (40 + x.b1) ++ f (40 + x.b2) ++ f (40 + x.b3)).drop 64).take 32 = f (40 + x.b2)
   rw [List.append_assoc (f (40 + x.b0) ++ f (40 + x.b1)), List.drop_left' (by rw [List.length_append]; omega), List.take_left' h2]
  ·show ((f (40 + x.b0) ++ f (40 + x.b1) ++ f (40 + x.b2) ++ f (40 + x.b3)).drop 96).take 32 = f (40 + x.b3)
   rw [List.drop_left' (by rw [List.length_append, List.length_append]; omega), List.take_of_length_le (by omega)]
 unfold accD dataV
 generalize f (40 + x.b0) ++ f (40 + x.b1) ++ f (40 + x.b2) ++ f (40 + x.b3) = L at *
 rw [← hc, show 32 * (k + 1) = 32 * k + 32 by omega, List.take_add]
 congr 1
 rw [List.drop_take, List.take_take, List.take_take]
 congr 1
 omega
theorem acc_len (f : Int → List UInt8) (x : Ino) (k : Nat) : (accD f x k).length ≤ 32 * k := by unfold accD; exact List.length_take_le ..
theorem acc_end {f : Int → List UInt8} {x : Ino} {k : Nat} (h : x.z ≤ 32 * (k : Int)) : accD f x k = dataV f x := by
 unfold accD
 refine List.take_of_length_le ?_
 unfold dataV
 rw [List.length_take]; omega
def daA (d : Option Dk) (x : Ino) : Nat → S
 | 0 => ⟨[(0, .d (encD d)), (3, .ptr 0 0), (5, .ptr 1 0), (6, .d (.it .i64 0))], [(0, .cells 6 ((encI x).map .d)), (1, .cells 2 [.d (.ot (.pointer none)), .nl 1]), (2, .tag 1 221)], 3⟩
 | k + 1 => ⟨[(0, .d (encD d)), (3, .ptr 0 0), (5, .ptr 1 0), (6, .d (.it .i64 (32 * (k + 1) : Nat)))], [(0, .cells 6 ((encI x).map .d)), (1, .cells 2 [.ptr 1 0, .ts 1 (bytesD (accD (rdS d) x (k + 1))) 5]), (2, .tag 1 221), (5, .tail 5 true)], 6⟩
theorem sec_ms {s : List UInt8} {m : Nat} (hs : s.length = 32) (hm : m ≤ 32) : MsV 3 32 ((encS s).map AV.d ++ []) (.ms 1 3 0 m 32) (.d (.fs 1 (bytesD (s.take m)))) := by
 refine .inr ⟨1, 0, m, 32, _, rfl, rfl, by omega, by unfold bytesD; rw [List.length_map, List.length_take]; omega, fun y hy => ?_, ?_⟩
 ·obtain ⟨b, _, rfl⟩ := List.mem_map.1 hy
  rfl
 ·rw [bytes_flat', List.drop_zero, Nat.mul_one, List.append_nil]
  unfold encS
  rw [List.map_take, List.map_take]
theorem sec_ms6 {s : List UInt8} {m : Nat} (hs : s.length = 32) (hm : m ≤ 32) : MsV 6 32 ((encS s).map AV.d ++ []) (.ms 1 6 0 m 32) (.d (.fs 1 (bytesD (s.take m)))) := by
 refine .inr ⟨1, 0, m, 32, _, rfl, rfl, by omega, by unfold bytesD; rw [List.length_map, List.length_take]; omega, fun y hy => ?_, ?_⟩
 ·obtain ⟨b, _, rfl⟩ := List.mem_map.1 hy
  rfl
 ·rw [bytes_flat', List.drop_zero, Nat.mul_one, List.append_nil]
  unfold encS
  rw [List.map_take, List.map_take]
theorem cells_d0 {y z : List UInt8} (h : y = z) : Ob.cells 2 [.ptr 1 0, .ts 1 (bytesD y) 5] = Ob.cells 2 [.ptr 1 0, .ts 1 (bytesD z) 5] := by rw [h]
theorem cells_d1 {x y z : List UInt8} (h : x ++ y = z) : Ob.cells 2 [.ptr 1 0, .ts 1 (bytesD x ++ bytesD y) 5] = Ob.cells 2 [.ptr 1 0, .ts 1 (bytesD z) 5] := by rw [← h, bytesD_app]
set_option maxHeartbeats 8000000 in
theorem data_ok (d : Option Dk) (hd : DkOK d) (x : Ino) (hx : RI x) : FnC Tryz.prog 115 [.d (encD d), .dg 6 (encI x)] (.d (.st (dataV (rdS d) x))) := by
 have hr : ∀ b : Int, FnC Tryz.prog 94 [.d (encD d), .d (.it .i64 (41 + b - 1))] (.tup [.dg 32 (encS (rdS d (40 + b))), .d (.it .i64 (rdE d (41 + b - 1)))]) := fun b => by
  have h := read_ok d hd (41 + b - 1)
  rw [show rdS d (40 + b) = rdS d (41 + b - 1) from congrArg _ (by omega)]
  exact h
 have hl := fun n => rdS_len hd n
 have hz : 0 ≤ x.z ∧ x.z ≤ 128 := by
  rcases hx with h | h <;> omega
 have hb : (-1000 ≤ x.b0 ∧ x.b0 ≤ 1000) ∧ (-1000 ≤ x.b1 ∧ x.b1 ≤ 1000) ∧ (-1000 ≤ x.b2 ∧ x.b2 ≤ 1000) ∧ (-1000 ≤ x.b3 ∧ x.b3 ≤ 1000) := by
  rcases hx with h | h
  ·omega
  ·refine ⟨?_, ?_, ?_, ?_⟩ <;> omega
 refine FnC.intro ti_ok Tryz.func115 rfl Tryz.ntmps115 Tryz.call115 rfl (Nat.le_of_ble_eq_true rfl) rfl ?_
 (repeat' ((conv=>whnf);first|with_reducible refine gA ?_|(with_reducible first|refine gB ?_|refine gZ (fun x hx hu=>?_)|refine gY (fun x hx=>?_)|refine gE ?_|refine Both.mk ?_ ?_|refine gS (fun h=>?_) (fun h=>?_)|refine Spl.nt ?_|refine Spl.mk (fun h=>?_) (fun h=>?_))))
 refine loop_rule ti_ok (fun k : Nat => k ≤ 4) (daA d x) (fun k => 4 - k) 0 (Nat.zero_le _) ⟨And.intro rfl (And.intro rfl (And.intro rfl (And.intro rfl trivial))), And.intro rfl (And.intro rfl (And.intro rfl trivial)), rfl⟩ ?_
 intro k hk
 have hal := acc_len (rdS d) x k
 by_cases hkz : 32 * (k : Int) < x.z
 ·have hk4 : k < 4 := by omega
  obtain ⟨m, hm, hm2, hm32⟩ : ∃ m : Nat, (if x.z - ((32 * k : Nat) : Int) < 32 then x.z - ((32 * k : Nat) : Int) else 32) = (m : Int) ∧ (m : Int) = min 32 (x.z - 32 * (k : Int)) ∧ m ≤ 32 := ⟨(if x.z - ((32 * k : Nat) : Int) < 32 then x.z - ((32 * k : Nat) : Int) else 32).toNat, by split <;> omega, by split <;> omega, by split <;> omega⟩
  have hst := acc_step (f := rdS d) hl x hk4 hm2 hkz
  have hlb : (bytesD (accD (rdS d) x k)).length = (accD (rdS d) x k).length := by simp [bytesD]
  have hls := hl (40 + blkI x k)
  have hlt : (bytesD ((rdS d (40 + blkI x k)).take m)).length ≤ 32 := by unfold bytesD; rw [List.length_map, List.length_take]; omega
  have hkc : ((32 * k : Nat) : Int) < x.z := by omega
  match k, hk, hkc, hm, hst, hlb, hls, hlt, hal with
  | 0, hk, hkc, hm, hst, hlb, hls, hlt, hal =>
   have hr0 := hr x.b0
   have hlt2 : ((rdS d (40 + x.b0)).take m).length ≤ 32 := by rw [List.length_take]; omega
   have hlt3 : (bytesD ((rdS d (40 + x.b0)).take m)).length ≤ 32 := hlt
   (repeat' ((conv=>whnf);first|with_reducible refine gA ?_|((with_reducible refine callE_id ?_); refine CallE.con ⟨_, hr0, ?_⟩) | with_reducible refine LetI.eq 0 (by decide +kernel) ?_ | with_reducible refine LetI.eq (m : Int) (by with_unfolding_all exact hm) ?_|(with_reducible first|refine gB ?_|refine gZ (fun x hx hu=>?_)|refine gY (fun x hx=>?_)|refine gE ?_|refine Both.mk ?_ ?_|refine gS (fun h=>?_) (fun h=>?_)|refine Spl.nt ?_|refine Spl.mk (fun h=>?_) (fun h=>?_))))
   refine CallI.wk (τ := ⟨[(32, .d (.fs 1 (bytesD ((rdS d (40 + x.b0)).take m)))), (0, .d (encD d)), (3, .ptr 0 0), (5, .ptr 1 0), (6, .d (.it .i64 0))], [(0, .cells 6 ((encI x).map .d)), (1, .cells 2 [.d (.ot (.pointer none)), .nl 1]), (2, .tag 1 221)], 3⟩) (Wk.frzMsL 3 32 ((encS (rdS d (40 + x.b0))).map AV.d ++ []) rfl (And.intro ⟨_, rfl, sec_ms hls hm32⟩ (And.intro ⟨_, rfl, .inl rfl⟩ (And.intro ⟨_, rfl, .inl rfl⟩ (And.intro ⟨_, rfl, .inl rfl⟩ (And.intro ⟨_, rfl, .inl rfl⟩ trivial))))) (And.intro ⟨rfl, rfl⟩ (And.intro ⟨rfl, rfl⟩ (And.intro ⟨rfl, rfl⟩ (trivial)))) rfl) ⟨_, _, _, _, _, _, rfl, rfl, rfl, rfl⟩ ?_
   (repeat' ((conv=>whnf);first|with_reducible refine gA ?_|with_reducible refine CallI.inl ti_ok i145 rfl ?_ | with_reducible refine CallI.inl ti_ok i175 rfl ?_ | with_reducible refine CallI.ident noEsc (by with_unfolding_all exact rfl) ?_|(with_reducible first|refine gB ?_|refine gZ (fun x hx hu=>?_)|refine gY (fun x hx=>?_)|refine gE ?_|refine Both.mk ?_ ?_|refine gS (fun h=>?_) (fun h=>?_)|refine Spl.nt ?_|refine Spl.mk (fun h=>?_) (fun h=>?_))))
   refine again 1 (by omega) (by dsimp only; omega) (And.intro rfl (And.intro rfl (And.intro rfl (And.intro rfl trivial)))) (And.intro rfl (And.intro (cells_d0 ?_) (And.intro rfl (And.intro rfl trivial)))) rfl
   exact hst.symm
  | 1, hk, hkc, hm, hst, hlb, hls, hlt, hal =>
   have hr0 := hr x.b1
   have hlt2 : ((rdS d (40 + x.b1)).take m).length ≤ 32 := by rw [List.length_take]; omega
   have hlt3 : (bytesD ((rdS d (40 + x.b1)).take m)).length ≤ 32 := hlt
   (repeat' ((conv=>whnf);first|with_reducible refine gA ?_|((with_reducible refine callE_id ?_); refine CallE.con ⟨_, hr0, ?_⟩) | with_reducible refine LetI.eq 1 (by decide +kernel) ?_ | with_reducible refine LetI.eq (m : Int) (by with_unfolding_all exact hm) ?_|(with_reducible first|refine gB ?_|refine gZ (fun x hx hu=>?_)|refine gY (fun x hx=>?_)|refine gE ?_|refine Both.mk ?_ ?_|refine gS (fun h=>?_) (fun h=>?_)|refine Spl.nt ?_|refine Spl.mk (fun h=>?_) (fun h=>?_))))
   refine CallI.wk (τ := ⟨[(32, .d (.fs 1 (bytesD ((rdS d (40 + x.b1)).take m)))), (0, .d (encD d)), (3, .ptr 0 0), (5, .ptr 1 0), (6, .d (.it .i64 (32 * (0 + 1) : Nat)))], [(0, .cells 6 ((encI x).map .d)), (1, .cells 2 [.ptr 1 0, .ts 1 (bytesD (accD (rdS d) x 1)) 5]), (2, .tag 1 221), (5, .tail 5 true)], 6⟩) (Wk.frzMsL 6 32 ((encS (rdS d (40 + x.b1))).map AV.d ++ []) rfl (And.intro ⟨_, rfl, sec_ms6 hls hm32⟩ (And.intro ⟨_, rfl, .inl rfl⟩ (And.intro ⟨_, rfl, .inl rfl⟩ (And.intro ⟨_, rfl, .inl rfl⟩ (And.intro ⟨_, rfl, .inl rfl⟩ trivial))))) (And.intro ⟨rfl, rfl⟩ (And.intro ⟨rfl, rfl⟩ (And.intro ⟨rfl, rfl⟩ (And.intro ⟨rfl, rfl⟩ (trivial))))) rfl) ⟨_, _, _, _, _, _, rfl, rfl, rfl, rfl⟩ ?_
   (repeat' ((conv=>whnf);first|with_reducible refine gA ?_|with_reducible refine CallI.inl ti_ok i145 rfl ?_ | with_reducible refine CallI.inl ti_ok i175 rfl ?_ | with_reducible refine CallI.ident noEsc (by with_unfolding_all exact rfl) ?_|(with_reducible first|refine gB ?_|refine gZ (fun x hx hu=>?_)|refine gY (fun x hx=>?_)|refine gE ?_|refine Both.mk ?_ ?_|refine gS (fun h=>?_) (fun h=>?_)|refine Spl.nt ?_|refine Spl.mk (fun h=>?_) (fun h=>?_))))
   refine again 2 (by omega) (by dsimp only; omega) (And.intro rfl (And.intro rfl (And.intro rfl (And.intro rfl trivial)))) (And.intro rfl (And.intro (cells_d1 ?_) (And.intro rfl (And.intro rfl trivial)))) rfl
   exact hst.symm
  | 2, hk, hkc, hm, hst, hlb, hls, hlt, hal =>
   have hr0 := hr x.b2
   have hlt2 : ((rdS d (40 + x.b2)).take m).length ≤ 32 := by rw [List.length_take]; omega
   have hlt3 : (bytesD ((rdS d (40 + x.b2)).take m)).length ≤ 32 := hlt
   (repeat' ((conv=>whnf);first|with_reducible refine gA ?_|((with_reducible refine callE_id ?_); refine CallE.con ⟨_, hr0, ?_⟩) | with_reducible refine LetI.eq 2 (by decide +kernel) ?_ | with_reducible refine LetI.eq (m : Int) (by with_unfolding_all exact hm) ?_|(with_reducible first|refine gB ?_|refine gZ (fun x hx hu=>?_)|refine gY (fun x hx=>?_)|refine gE ?_|refine Both.mk ?_ ?_|refine gS (fun h=>?_) (fun h=>?_)|refine Spl.nt ?_|refine Spl.mk (fun h=>?_) (fun h=>?_))))
   refine CallI.wk (τ := ⟨[(32, .d (.fs 1 (bytesD ((rdS d (40 + x.b2)).take m)))), (0, .d (encD d)), (3, .ptr 0 0), (5, .ptr 1 0), (6, .d (.it .i64 (32 * (1 + 1) : Nat)))], [(0, .cells 6 ((encI x).map .d)), (1, .cells 2 [.ptr 1 0, .ts 1 (bytesD (accD (rdS d) x 2)) 5]), (2, .tag 1 221), (5, .tail 5 true)], 6⟩) (Wk.frzMsL 6 32 ((encS (rdS d (40 + x.b2))).map AV.d ++ []) rfl (And.intro ⟨_, rfl, sec_ms6 hls hm32⟩ (And.intro ⟨_, rfl, .inl rfl⟩ (And.intro ⟨_, rfl, .inl rfl⟩ (And.intro ⟨_, rfl, .inl rfl⟩ (And.intro ⟨_, rfl, .inl rfl⟩ trivial))))) (And.intro ⟨rfl, rfl⟩ (And.intro ⟨rfl, rfl⟩ (And.intro ⟨rfl, rfl⟩ (And.intro ⟨rfl, rfl⟩ (trivial))))) rfl) ⟨_, _, _, _, _, _, rfl, rfl, rfl, rfl⟩ ?_
   (repeat' ((conv=>whnf);first|with_reducible refine gA ?_|with_reducible refine CallI.inl ti_ok i145 rfl ?_ | with_reducible refine CallI.inl ti_ok i175 rfl ?_ | with_reducible refine CallI.ident noEsc (by with_unfolding_all exact rfl) ?_|(with_reducible first|refine gB ?_|refine gZ (fun x hx hu=>?_)|refine gY (fun x hx=>?_)|refine gE ?_|refine Both.mk ?_ ?_|refine gS (fun h=>?_) (fun h=>?_)|refine Spl.nt ?_|refine Spl.mk (fun h=>?_) (fun h=>?_))))
   refine again 3 (by omega) (by dsimp only; omega) (And.intro rfl (And.intro rfl (And.intro rfl (And.intro rfl trivial)))) (And.intro rfl (And.intro (cells_d1 ?_) (And.intro rfl (And.intro rfl trivial)))) rfl
   exact hst.symm
  | 3, hk, hkc, hm, hst, hlb, hls, hlt, hal =>
   have hr0 := hr x.b3
   have hlt2 : ((rdS d (40 + x.b3)).take m).length ≤ 32 := by rw [List.length_take]; omega
   have hlt3 : (bytesD ((rdS d (40 + x.b3)).take m)).length ≤ 32 := hlt
   (repeat' ((conv=>whnf);first|with_reducible refine gA ?_|((with_reducible refine callE_id ?_); refine CallE.con ⟨_, hr0, ?_⟩) | with_reducible refine LetI.eq 3 (by decide +kernel) ?_ | with_reducible refine LetI.eq (m : Int) (by with_unfolding_all exact hm) ?_|(with_reducible first|refine gB ?_|refine gZ (fun x hx hu=>?_)|refine gY (fun x hx=>?_)|refine gE ?_|refine Both.mk ?_ ?_|refine gS (fun h=>?_) (fun h=>?_)|refine Spl.nt ?_|refine Spl.mk (fun h=>?_) (fun h=>?_))))
   refine CallI.wk (τ := ⟨[(32, .d (.fs 1 (bytesD ((rdS d (40 + x.b3)).take m)))), (0, .d (encD d)), (3, .ptr 0 0), (5, .ptr 1 0), (6, .d (.it .i64 (32 * (2 + 1) : Nat)))], [(0, .cells 6 ((encI x).map .d)), (1, .cells 2 [.ptr 1 0, .ts 1 (bytesD (accD (rdS d) x 3)) 5]), (2, .tag 1 221), (5, .tail 5 true)], 6⟩) (Wk.frzMsL 6 32 ((encS (rdS d (40 + x.b3))).map AV.d ++ []) rfl (And.intro ⟨_, rfl, sec_ms6 hls hm32⟩ (And.intro ⟨_, rfl, .inl rfl⟩ (And.intro ⟨_, rfl, .inl rfl⟩ (And.intro ⟨_, rfl, .inl rfl⟩ (And.intro ⟨_, rfl, .inl rfl⟩ trivial))))) (And.intro ⟨rfl, rfl⟩ (And.intro ⟨rfl, rfl⟩ (And.intro ⟨rfl, rfl⟩ (And.intro ⟨rfl, rfl⟩ (trivial))))) rfl) ⟨_, _, _, _, _, _, rfl, rfl, rfl, rfl⟩ ?_
   (repeat' ((conv=>whnf);first|with_reducible refine gA ?_|with_reducible refine CallI.inl ti_ok i145 rfl ?_ | with_reducible refine CallI.inl ti_ok i175 rfl ?_ | with_reducible refine CallI.ident noEsc (by with_unfolding_all exact rfl) ?_|(with_reducible first|refine gB ?_|refine gZ (fun x hx hu=>?_)|refine gY (fun x hx=>?_)|refine gE ?_|refine Both.mk ?_ ?_|refine gS (fun h=>?_) (fun h=>?_)|refine Spl.nt ?_|refine Spl.mk (fun h=>?_) (fun h=>?_))))
   refine again 4 (by omega) (by dsimp only; omega) (And.intro rfl (And.intro rfl (And.intro rfl (And.intro rfl trivial)))) (And.intro rfl (And.intro (cells_d1 ?_) (And.intro rfl (And.intro rfl trivial)))) rfl
   exact hst.symm
 ·have he := acc_end (f := rdS d) (x := x) (k := k) (by omega)
  have hlb : (bytesD (accD (rdS d) x k)).length = (accD (rdS d) x k).length := by simp [bytesD]
  match k, hk, hkz, he, hlb, hal with
  | 0, hk, hkz, he, hlb, hal =>
   (repeat' ((conv=>whnf);first|with_reducible refine gA ?_|with_reducible refine CallI.inl ti_ok i146 rfl ?_|(with_reducible first|refine gB ?_|refine gZ (fun x hx hu=>?_)|refine gY (fun x hx=>?_)|refine gE ?_|refine Both.mk ?_ ?_|refine gS (fun h=>?_) (fun h=>?_)|refine Spl.nt ?_|refine Spl.mk (fun h=>?_) (fun h=>?_))))
   refine st_eq ?_
   rw [← he]; rfl
  | k + 1, hk, hkz, he, hlb, hal =>
   (repeat' ((conv=>whnf);first|with_reducible refine gA ?_|with_reducible refine CallI.inl ti_ok i146 rfl ?_|(with_reducible first|refine gB ?_|refine gZ (fun x hx hu=>?_)|refine gY (fun x hx=>?_)|refine gE ?_|refine Both.mk ?_ ?_|refine gS (fun h=>?_) (fun h=>?_)|refine Spl.nt ?_|refine Spl.mk (fun h=>?_) (fun h=>?_))))
   refine ⟨accD (rdS d) x (k + 1), ⟨rfl, ?_, by omega⟩, ?_⟩
   ·show ((bytesD (accD (rdS d) x (k + 1))).length : Int) = _; rw [hlb]
   ·rw [he]; rfl
end Go.Proofs.YthknbpijaoljgaaGreatDoor
namespace Go.Proofs.YthknbpijaoljgaaGreatDoor
open Go.Sy
end Go.Proofs.YthknbpijaoljgaaGreatDoor
namespace Go.Proofs.YthknbpijaoljgaaGreatDoor
open Go.Sy
theorem gB0 {p q : Prop} (k : q) (h : q → p := by intro k; with_reducible first | exact g_i64 k | exact g_u64 k | exact g_u8 k | exact g_iq k | exact g_uq k | exact g_rem k | exact LetN.mk k | exact g_hm k | exact g_hb k | exact g_lit k) : p := h k
structure Lv where
 N : List (List UInt8)
 k : Nat
 n : Int
 w : D
def rgD (k : Nat) (f : Func) : Ob :=
 match rg (bd f) with
 | some (ps, asg, body) => .loop k ps asg body .done (some .ret)
 | none => .frame 0 []
def tm0 (O : List (List D)) : List (Nat × Ob) := [(7, .tail 115 true), (2, .cells 1 [.ts 3 O 7]), (1, .cells 1 [.d (.bl false)]), (0, .cells 1 [.nl 3])]
def tm1 (O : List (List D)) : List (Nat × Ob) := [(7, .tail 115 true), (2, .cells 1 [.ts 3 O 7]), (1, .cells 1 [.d (.bl false)]), (0, .cells 1 [.ts 3 O 7])]
def c3 (d : Option Dk) (n : Int) (w : D) (bd bn bw : Nat) : List (Nat × Ob) := [(bd, .cells 1 [.d (encD d)]), (bn, .cells 1 [.d (.it .i64 n)]), (bw, .cells 1 [.d w])]
def slI (bd bn bw Y : Nat) (N : List (List UInt8)) (k : Nat) : List (Nat × AV) := [(1, .ptr bw 0), (2, .ptr bd 0), (3, .ptr bn 0), (4, .ptr Y 0), (18, .d (.fs 1 (vS N))), (19, .d (.it .i64 (vS N).length)), (20, .d (.it .i64 (k : Nat)))]
def clo (bd bn bw : Nat) : AV := .fn (.func 111) [] [.ptr bw 0, .ptr bd 0, .ptr bn 0]
theorem drop_at14 {α : Type} {l : List α} {j : Nat} {c : α} (h : l[j]? = some c) : l.drop j = c :: l.drop (j + 1) := by
 obtain ⟨hj, rfl⟩ := List.getElem?_eq_some_iff.1 h
 exact List.drop_eq_getElem_cons hj
theorem fndV_eq (o : Option Nat) : fndV o = .tup [.d (.it .i64 (match o with | some k => (k : Nat) | none => 0)), .d (.bl o.isSome)] := by cases o <;> rfl
theorem join_cons : ∀ (l : List (List UInt8)) (a : List UInt8), 47 :: Lib.join (a :: l) [47] = joinP (a :: l)
 | [], a => by simp [joinP, Lib.join, List.intercalate]
 | b :: t, a => by
  have e : Lib.join (a :: b :: t) [47] = a ++ 47 :: Lib.join (b :: t) [47] := by simp [Lib.join, List.intercalate]
  rw [e, join_cons t b]
  simp [joinP]
theorem joinP_len8 : ∀ (l : List (List UInt8)), (∀ s ∈ l, s.length ≤ 8) → (joinP l).length ≤ 9 * l.length
 | [], _ => by simp [joinP]
 | a :: l, h => by
  have h1 := joinP_len8 l fun s hs => h s (List.mem_cons_of_mem _ hs)
  have h2 := h a List.mem_cons_self
  show ((47 :: a) ++ joinP l).length ≤ _
  rw [List.length_append, List.length_cons, List.length_cons]; omega
theorem join_way (l : List (List UInt8)) (hl : ∀ s ∈ l, s.length ≤ 8) (h4 : l.length ≤ 4) (hne : l ≠ []) : FnC Tryz.prog 114 [.d (.fs 1 (vS l))] (.d (.st (joinR l))) := by
 have hlen := joinP_len8 l hl
 have e : 47 :: Lib.join l [47] = joinR l := by
  unfold joinR
  rw [if_neg hne]
  match l, hne with
  | a :: t, _ => exact join_cons t a
 have e2 : joinR l = joinP l := if_neg hne
 have := congrArg List.length e
 rw [List.length_cons, e2] at this
 have h := pathJoin_ok l (by omega) (by omega)
 rw [e] at h
 exact h
def E0 (FT FI : Func) (R : Nat → Func → Ob) (d : Option Dk) (n : Int) (w : D) (tl : List (Nat × Ob)) : List (Nat × Ob) := (9, R 8 FT) :: (8, .frame 23 [(2, .ptr 0 0), (3, .ptr 1 0), (4, .ptr 2 0), (11, clo 4 5 6)]) :: (c3 d n w 4 5 6 ++ tl)
def E1 (FT FI : Func) (R : Nat → Func → Ob) (d : Option Dk) (n : Int) (w : D) (v0 : Lv) (tl : List (Nat × Ob)) : List (Nat × Ob) := (18, R 17 FI) :: (17, .frame 73 (slI 4 5 6 10 v0.N v0.k ++ [(65, clo 14 15 16)])) :: (c3 d n w 14 15 16 ++ (10, .cells 1 [.yld 9]) :: E0 FT FI R d v0.n v0.w tl)
def E2 (FT FI : Func) (R : Nat → Func → Ob) (d : Option Dk) (n : Int) (w : D) (v0 v1 : Lv) (tl : List (Nat × Ob)) : List (Nat × Ob) := (27, R 26 FI) :: (26, .frame 73 (slI 14 15 16 19 v1.N v1.k ++ [(65, clo 23 24 25)])) :: (c3 d n w 23 24 25 ++ (19, .cells 1 [.yld 18]) :: E1 FT FI R d v1.n v1.w v0 tl)
def E3 (FT FI : Func) (R : Nat → Func → Ob) (d : Option Dk) (n : Int) (w : D) (v0 v1 v2 : Lv) (tl : List (Nat × Ob)) : List (Nat × Ob) := (36, R 35 FI) :: (35, .frame 73 (slI 23 24 25 28 v2.N v2.k ++ [(65, clo 32 33 34)])) :: (c3 d n w 32 33 34 ++ (28, .cells 1 [.yld 27]) :: E2 FT FI R d v2.n v2.w v0 v1 tl)
def E4 (FT FI : Func) (R : Nat → Func → Ob) (d : Option Dk) (n : Int) (w : D) (v0 v1 v2 v3 : Lv) (tl : List (Nat × Ob)) : List (Nat × Ob) := (45, R 44 FI) :: (44, .frame 73 (slI 32 33 34 37 v3.N v3.k ++ [(65, clo 41 42 43)])) :: (c3 d n w 41 42 43 ++ (37, .cells 1 [.yld 36]) :: E3 FT FI R d v3.n v3.w v0 v1 v2 tl)
set_option maxHeartbeats 8000000 in
theorem lvl4 (d : Option Dk) (hd : DkOK d) (v0 v1 v2 v3 : Lv) (n : Int) (way : List (List UInt8)) (hw : way.length = 4) (hwn : ∀ s ∈ way, s.length ≤ 8) (out : List Nod) (ho : out.length ≤ 64) (O : List (List D)) (hO : O = out.map encN) (G : Exit → S → Prop)
  (hA1 : (out ++ subV (rdS d) 0 n way).length ≤ 64 → G .ret ⟨[], E4 Tryz.f31 Tryz.f111 rgL d n (.fs 1 (vS way)) v0 v1 v2 v3 (tm0 ((out ++ subV (rdS d) 0 n way).map encN)), 46⟩) (hA2 : (out ++ subV (rdS d) 0 n way).length ≤ 64 → G .normal ⟨[], E4 Tryz.f31 Tryz.f111 rgL d n (.fs 1 (vS way)) v0 v1 v2 v3 (tm0 ((out ++ subV (rdS d) 0 n way).map encN)), 46⟩) (hB : ¬ (out ++ subV (rdS d) 0 n way).length ≤ 64 → G .ret ⟨[], E4 Tryz.f31 Tryz.f111 rgD d n (.fs 1 (vS way)) v0 v1 v2 v3 (tm1 (((out ++ subV (rdS d) 0 n way).take 64).map encN)), 46⟩) :
  vc Tryz.prog ti 72 (bd Tryz.f111) (fun e υ => ∃ τ, Wk 72 υ τ ∧ G e τ) ⟨idx 0 [.yld 45, .ptr 43 0, .ptr 41 0, .ptr 42 0], E4 Tryz.f31 Tryz.f111 rgL d n (.fs 1 (vS way)) v0 v1 v2 v3 (tm0 O), 46⟩ := by
 have hwl : (vS way).length = way.length := List.length_map ..
 have hT : out ++ subV (rdS d) 0 n way = out := List.append_nil _
 rw [hT, ← hO] at hA1
 (repeat' ((conv=>whnf);first|with_reducible refine gA ?_|(with_reducible first|refine gB ?_|refine gZ (fun x hx hu=>?_)|refine gY (fun x hx=>?_)|refine gE ?_|refine Both.mk ?_ ?_|refine gS (fun h=>?_) (fun h=>?_)|refine Spl.nt ?_|refine Spl.mk (fun h=>?_) (fun h=>?_))))
 exact ⟨⟨[], E4 Tryz.f31 Tryz.f111 rgL d n (.fs 1 (vS way)) v0 v1 v2 v3 (tm0 O), 46⟩, Wk.enF trivial (by (repeat (first | exact trivial | refine And.intro (obw_eq rfl (by with_unfolding_all exact rfl)) ?_ | refine And.intro (obw_fr (by with_unfolding_all exact rfl) (by (repeat (first | exact trivial | refine And.intro (by with_unfolding_all exact rfl) ?_)))) ?_))) rfl, hA1 ho⟩
set_option maxHeartbeats 16000000 in
theorem lvl3 (d : Option Dk) (hd : DkOK d) (v0 v1 v2 : Lv) (n : Int) (way : List (List UInt8)) (hw : way.length = 3) (hwn : ∀ s ∈ way, s.length ≤ 8) (out : List Nod) (ho : out.length ≤ 64) (O : List (List D)) (hO : O = out.map encN) (G : Exit → S → Prop)
  (hA1 : (out ++ subV (rdS d) 1 n way).length ≤ 64 → G .ret ⟨[], E3 Tryz.f31 Tryz.f111 rgL d n (.fs 1 (vS way)) v0 v1 v2 (tm0 ((out ++ subV (rdS d) 1 n way).map encN)), 37⟩) (hA2 : (out ++ subV (rdS d) 1 n way).length ≤ 64 → G .normal ⟨[], E3 Tryz.f31 Tryz.f111 rgL d n (.fs 1 (vS way)) v0 v1 v2 (tm0 ((out ++ subV (rdS d) 1 n way).map encN)), 37⟩) (hB : ¬ (out ++ subV (rdS d) 1 n way).length ≤ 64 → G .ret ⟨[], E3 Tryz.f31 Tryz.f111 rgD d n (.fs 1 (vS way)) v0 v1 v2 (tm1 (((out ++ subV (rdS d) 1 n way).take 64).map encN)), 37⟩) :
  vc Tryz.prog ti 72 (bd Tryz.f111) (fun e υ => ∃ τ, Wk 72 υ τ ∧ G e τ) ⟨idx 0 [.yld 36, .ptr 34 0, .ptr 32 0, .ptr 33 0], E3 Tryz.f31 Tryz.f111 rgL d n (.fs 1 (vS way)) v0 v1 v2 (tm0 O), 37⟩ := by
 have hwl : (vS way).length = way.length := List.length_map ..
 have hnl : (vS (nms (rdS d) n)).length = (nms (rdS d) n).length := List.length_map ..
 have hls := list_ok d hd n
 have hkb := nms_len (rdS d) n
 subst hO
 (repeat' ((conv=>whnf);first|with_reducible refine gA ?_|((with_reducible refine callE_id ?_); refine CallE.con ⟨_, hls, ?_⟩)|(with_reducible first|refine gB ?_|refine gZ (fun x hx hu=>?_)|refine gY (fun x hx=>?_)|refine gE ?_|refine Both.mk ?_ ?_|refine gS (fun h=>?_) (fun h=>?_)|refine Spl.nt ?_|refine Spl.mk (fun h=>?_) (fun h=>?_))))
 conv => whnf
 refine LoopS.wk (τ := ⟨slI 32 33 34 37 (nms (rdS d) n) 0, (37, .cells 1 [.yld 36]) :: E3 Tryz.f31 Tryz.f111 rgL d n (.fs 1 (vS way)) v0 v1 v2 (tm0 (out.map encN)), 38⟩) (Wk.enF (by (repeat (first | exact trivial | refine And.intro rfl ?_))) (by (repeat (first | exact trivial | refine And.intro (obw_eq rfl (by with_unfolding_all exact rfl)) ?_ | refine And.intro (obw_fr (by with_unfolding_all exact rfl) (by (repeat (first | exact trivial | refine And.intro (by with_unfolding_all exact rfl) ?_)))) ?_))) rfl) ?_
 refine loop_ruleW ti_ok (fun x : Nat × List Nod => x.1 ≤ (nms (rdS d) n).length ∧ x.2.length ≤ 64 ∧ x.2 ++ subL (rdS d) 0 n way ((nms (rdS d) n).drop x.1) = out ++ subV (rdS d) 1 n way) (fun x : Nat × List Nod => ⟨slI 32 33 34 37 (nms (rdS d) n) x.1, (37, .cells 1 [.yld 36]) :: E3 Tryz.f31 Tryz.f111 rgL d n (.fs 1 (vS way)) v0 v1 v2 (tm0 (x.2.map encN)), 38⟩) (fun x => (nms (rdS d) n).length - x.1) (0, out) ⟨Nat.zero_le _, ho, rfl⟩ (Wk.en ⟨by (repeat (first | exact trivial | refine And.intro rfl ?_)), by (repeat (first | exact trivial | refine And.intro rfl ?_)), rfl⟩) ?_
 intro ⟨k, out1⟩ ⟨k1, ho1, hT⟩
 dsimp only at k1 ho1 hT
 have hol : (out1.map encN).length = out1.length := List.length_map ..
 rcases Nat.lt_or_ge k (nms (rdS d) n).length with hkl | hkl
 ·obtain ⟨s, hs⟩ := lt_get hkl
  have hx : (vS (nms (rdS d) n))[k]? = some [.st s] := by unfold vS; rw [List.getElem?_map, hs]; rfl
  have hsn := name_len (nms_name (rdS d) n s (List.mem_of_getElem? hs))
  have hwn2 : ∀ t ∈ way ++ [s], t.length ≤ 8 := fun t ht => by
   rcases List.mem_append.1 ht with ht | ht
   ·exact hwn t ht
   ·rw [List.mem_singleton.1 ht]; exact hsn
  have hw2 : (way ++ [s]).length = 4 := by rw [List.length_append, hw]; rfl
  have hf := find_ok d hd n s
  rw [fndV_eq] at hf
  have he := entry_ok d hd (kOf (rdS d) n s)
  have hi := inode_ok d hd (mOf (rdS d) n s)
  have hj := join_way (way ++ [s]) hwn2 (by omega) (by simp)
  have hda := data_ok d hd (inoAt (rdS d) (mOf (rdS d) n s)) (inoAt_RI _ _)
  rw [drop_at14 hs, subL_cons] at hT
  have hwo : vS way ++ [[.st s]] = vS (way ++ [s]) := by unfold vS; rw [List.map_append]; rfl
  have htk : (List.take (((vS way).length : Nat) : Int).toNat (vS way)).length ≤ 4 := by rw [List.length_take]; omega
  have hvl : (vS (way ++ [s])).length = 4 := by unfold vS; rw [List.length_map]; exact hw2
  have hwo2 : (vS way).take (((vS way).length : Nat) : Int).toNat ++ [[.st s]] = vS (way ++ [s]) := by rw [List.take_of_length_le (by omega)]; exact hwo
  have hmap : (out1.map encN ++ [encN (nodV (rdS d) way n s)]) = (out1 ++ [(nodV (rdS d) way n s)]).map encN := by rw [List.map_append]; rfl
  have hE : out1.length = 64 → G .ret ⟨[], E3 Tryz.f31 Tryz.f111 rgD d n (.fs 1 (vS way)) v0 v1 v2 (tm1 (out1.map encN)), 37⟩ := fun h => by
   have := hB (by rw [← hT, List.length_append, List.length_cons]; omega)
   rw [← hT, List.take_left' h] at this
   exact this
  have hT2 : (inoAt (rdS d) (mOf (rdS d) n s)).k = 2 → ((out1 ++ [(nodV (rdS d) way n s)]) ++ subV (rdS d) 0 (mOf (rdS d) n s) (way ++ [s])) ++ subL (rdS d) 0 n way ((nms (rdS d) n).drop (k + 1)) = out ++ subV (rdS d) 1 n way := fun h => by
   rw [← hT, if_pos h]; simp only [List.append_assoc, List.cons_append, List.nil_append]
  have hT3 : ¬ (inoAt (rdS d) (mOf (rdS d) n s)).k = 2 → (out1 ++ [(nodV (rdS d) way n s)]) ++ subL (rdS d) 0 n way ((nms (rdS d) n).drop (k + 1)) = out ++ subV (rdS d) 1 n way := fun h => by
   rw [← hT, if_neg h]; simp only [List.append_assoc, List.cons_append, List.nil_append]
  have hE2 : (inoAt (rdS d) (mOf (rdS d) n s)).k = 2 → ¬ ((out1 ++ [(nodV (rdS d) way n s)]) ++ subV (rdS d) 0 (mOf (rdS d) n s) (way ++ [s])).length ≤ 64 → G .ret ⟨[], E3 Tryz.f31 Tryz.f111 rgD d n (.fs 1 (vS way)) v0 v1 v2 (tm1 ((((out1 ++ [(nodV (rdS d) way n s)]) ++ subV (rdS d) 0 (mOf (rdS d) n s) (way ++ [s])).take 64).map encN)), 37⟩ := fun h h2 => by
   have := hB (by rw [← hT2 h, List.length_append]; omega)
   rw [← hT2 h, List.take_append_of_le_length (by omega)] at this
   exact this
  have hmu : (nms (rdS d) n).length - (k + 1) < (nms (rdS d) n).length - k := by omega
  clear hT hB
  (repeat' ((conv=>whnf);first|with_reducible refine gA ?_|((with_reducible refine callE_id ?_); first | refine CallE.con ⟨_, hf, ?_⟩ | refine CallE.con ⟨_, he, ?_⟩ | refine CallE.con ⟨_, hi, ?_⟩ | refine CallE.con ⟨_, hj, ?_⟩ | refine CallE.con ⟨_, hda, ?_⟩ | refine CallE.inl ?_) | refine CallP.mk ⟨_, hj, ?_⟩ | refine CallP.mk ⟨_, hda, ?_⟩|(with_reducible first|refine gB0 ?_|refine gZ (fun x hx hu=>?_)|refine gY (fun x hx=>?_)|refine gE ?_|refine Both.mk ?_ ?_|refine gS (fun h=>?_) (fun h=>?_)|refine Spl.nt ?_|refine Spl.mk (fun h=>?_) (fun h=>?_))))
  refine DrawS.wk (τ := ⟨(9, .d (.it .i64 (mOf (rdS d) n s))) :: (10, .ptr 38 0) :: (11, .d (.fs 1 (vS (way ++ [s])))) :: slI 32 33 34 37 (nms (rdS d) n) k, (39, .tag 38 96) :: (38, .cells 6 ((encI (inoAt (rdS d) (mOf (rdS d) n s))).map .d)) :: (37, .cells 1 [.yld 36]) :: E3 Tryz.f31 Tryz.f111 rgL d n (.fs 1 (vS way)) v0 v1 v2 (tm0 (out1.map encN)), 40⟩) ?_ ?_
  ·exact Wk.vwL (by (repeat (first | exact trivial | refine And.intro (Vw.eq rfl) ?_ | refine And.intro (Vw.ts' hwo2) ?_))) (by (repeat (first | exact trivial | refine And.intro (VwO.same _) ?_))) rfl
  (repeat' ((conv=>whnf);first|with_reducible refine gA ?_|((with_reducible refine callE_id ?_); first | refine CallE.con ⟨_, hf, ?_⟩ | refine CallE.con ⟨_, he, ?_⟩ | refine CallE.con ⟨_, hi, ?_⟩ | refine CallE.con ⟨_, hj, ?_⟩ | refine CallE.con ⟨_, hda, ?_⟩ | refine CallE.inl ?_) | refine CallP.mk ⟨_, hj, ?_⟩ | refine CallP.mk ⟨_, hda, ?_⟩|(with_reducible first|refine gB ?_|refine gZ (fun x hx hu=>?_)|refine gY (fun x hx=>?_)|refine gE ?_|refine Both.mk ?_ ?_|refine gS (fun h=>?_) (fun h=>?_)|refine Spl.nt ?_|refine Spl.mk (fun h=>?_) (fun h=>?_))))
  refine YieldI.post ?_
  refine YieldI.intro ti_ok (by with_unfolding_all exact rfl) (by with_unfolding_all exact rfl) (by with_unfolding_all exact rfl) ?_
  (repeat' ((conv=>whnf);first|with_reducible refine gA ?_|with_reducible refine YieldI.intro ti_ok (by with_unfolding_all exact rfl) (by with_unfolding_all exact rfl) (by with_unfolding_all exact rfl) ?_|(with_reducible first|refine gB ?_|refine gZ (fun x hx hu=>?_)|refine gY (fun x hx=>?_)|refine gE ?_|refine Both.mk ?_ ?_|refine gS (fun h=>?_) (fun h=>?_)|refine Spl.nt ?_|refine Spl.mk (fun h=>?_) (fun h=>?_))))
  ·refine ⟨⟨[(57, .d (.bl false))], E3 Tryz.f31 Tryz.f111 rgD d n (.fs 1 (vS way)) v0 v1 v2 (tm1 (out1.map encN)), 38⟩, Wk.enF (by (repeat (first | exact trivial | refine And.intro rfl ?_))) (by (repeat (first | exact trivial | refine And.intro (obw_eq rfl (by with_unfolding_all exact rfl)) ?_ | refine And.intro (obw_fr (by with_unfolding_all exact rfl) (by (repeat (first | exact trivial | refine And.intro (by with_unfolding_all exact rfl) ?_)))) ?_))) rfl, ?_⟩
   (repeat' ((conv=>whnf);first|with_reducible refine gA ?_|(with_reducible first|refine gB ?_|refine gZ (fun x hx hu=>?_)|refine gY (fun x hx=>?_)|refine gE ?_|refine Both.mk ?_ ?_|refine gS (fun h=>?_) (fun h=>?_)|refine Spl.nt ?_|refine Spl.mk (fun h=>?_) (fun h=>?_))))
   exact ⟨⟨[], E3 Tryz.f31 Tryz.f111 rgD d n (.fs 1 (vS way)) v0 v1 v2 (tm1 (out1.map encN)), 37⟩, Wk.enF trivial (by (repeat (first | exact trivial | refine And.intro (obw_eq rfl (by with_unfolding_all exact rfl)) ?_ | refine And.intro (obw_fr (by with_unfolding_all exact rfl) (by (repeat (first | exact trivial | refine And.intro (by with_unfolding_all exact rfl) ?_)))) ?_))) rfl, hE (by omega)⟩
  ·have hlo : (out1 ++ [(nodV (rdS d) way n s)]).length ≤ 64 := by rw [List.length_append, List.length_singleton]; omega
   refine ⟨⟨(57, .d (.bl true)) :: (9, .d (.it .i64 (mOf (rdS d) n s))) :: (10, .ptr 38 0) :: (11, .d (.fs 1 (vS (way ++ [s])))) :: slI 32 33 34 37 (nms (rdS d) n) k, (39, .tag 38 96) :: (38, .cells 6 ((encI (inoAt (rdS d) (mOf (rdS d) n s))).map .d)) :: (37, .cells 1 [.yld 36]) :: E3 Tryz.f31 Tryz.f111 rgL d n (.fs 1 (vS way)) v0 v1 v2 (tm0 (out1.map encN ++ [encN (nodV (rdS d) way n s)])), 40⟩, Wk.enF (by (repeat (first | exact trivial | refine And.intro rfl ?_))) (by (repeat (first | exact trivial | refine And.intro (obw_eq rfl (by with_unfolding_all exact rfl)) ?_ | refine And.intro (obw_fr (by with_unfolding_all exact rfl) (by (repeat (first | exact trivial | refine And.intro (by with_unfolding_all exact rfl) ?_)))) ?_))) rfl, ?_⟩
   by_cases hk2 : (inoAt (rdS d) (mOf (rdS d) n s)).k = 2
   ·(repeat' ((conv=>whnf);first|with_reducible refine gA ?_|((with_reducible refine callE_id ?_); refine CallE.inl ?_) | with_reducible refine CallI.inl ti_ok i73 rfl ?_|(with_reducible first|refine gB ?_|refine gZ (fun x hx hu=>?_)|refine gY (fun x hx=>?_)|refine gE ?_|refine Both.mk ?_ ?_|refine gS (fun h=>?_) (fun h=>?_)|refine Spl.nt ?_|refine Spl.mk (fun h=>?_) (fun h=>?_))))
    conv => whnf
    refine RangeS.wk (τ := ⟨slI 32 33 34 37 (nms (rdS d) n) k ++ [(65, clo 41 42 43)], c3 d (mOf (rdS d) n s) (.fs 1 (vS (way ++ [s]))) 41 42 43 ++ (37, .cells 1 [.yld 36]) :: E3 Tryz.f31 Tryz.f111 rgL d n (.fs 1 (vS way)) v0 v1 v2 (tm0 (out1.map encN ++ [encN (nodV (rdS d) way n s)])), 44⟩) (Wk.enF (by (repeat (first | exact trivial | refine And.intro rfl ?_))) (by (repeat (first | exact trivial | refine And.intro (obw_eq rfl (by with_unfolding_all exact rfl)) ?_ | refine And.intro (obw_fr (by with_unfolding_all exact rfl) (by (repeat (first | exact trivial | refine And.intro (by with_unfolding_all exact rfl) ?_)))) ?_))) rfl) ?_
    refine RangeS.introW ti_ok i111 rfl rfl (lvl4 d hd v0 v1 v2 ⟨nms (rdS d) n, k, n, .fs 1 (vS way)⟩ (mOf (rdS d) n s) (way ++ [s]) hw2 hwn2 (out1 ++ [(nodV (rdS d) way n s)]) hlo (out1.map encN ++ [encN (nodV (rdS d) way n s)]) hmap _ ?_ ?_ ?_)
    ·intro h2
     (repeat' ((conv=>whnf);first|with_reducible refine gA ?_|(with_reducible first|refine gB ?_|refine gZ (fun x hx hu=>?_)|refine gY (fun x hx=>?_)|refine gE ?_|refine Both.mk ?_ ?_|refine gS (fun h=>?_) (fun h=>?_)|refine Spl.nt ?_|refine Spl.mk (fun h=>?_) (fun h=>?_))))
     exact ⟨(k + 1, (out1 ++ [(nodV (rdS d) way n s)]) ++ subV (rdS d) 0 (mOf (rdS d) n s) (way ++ [s])), ⟨hkl, h2, hT2 hk2⟩, by dsimp only; omega, Wk.enF (And.intro rfl (And.intro rfl (And.intro rfl (And.intro rfl (And.intro rfl (And.intro rfl (And.intro (it_eq (by first | omega | (dsimp only; omega))) trivial))))))) (by (repeat (first | exact trivial | refine And.intro (obw_eq rfl (by with_unfolding_all exact rfl)) ?_ | refine And.intro (obw_fr (by with_unfolding_all exact rfl) (by (repeat (first | exact trivial | refine And.intro (by with_unfolding_all exact rfl) ?_)))) ?_))) rfl⟩
    ·intro h2
     (repeat' ((conv=>whnf);first|with_reducible refine gA ?_|(with_reducible first|refine gB ?_|refine gZ (fun x hx hu=>?_)|refine gY (fun x hx=>?_)|refine gE ?_|refine Both.mk ?_ ?_|refine gS (fun h=>?_) (fun h=>?_)|refine Spl.nt ?_|refine Spl.mk (fun h=>?_) (fun h=>?_))))
     exact ⟨(k + 1, (out1 ++ [(nodV (rdS d) way n s)]) ++ subV (rdS d) 0 (mOf (rdS d) n s) (way ++ [s])), ⟨hkl, h2, hT2 hk2⟩, by dsimp only; omega, Wk.enF (And.intro rfl (And.intro rfl (And.intro rfl (And.intro rfl (And.intro rfl (And.intro rfl (And.intro (it_eq (by first | omega | (dsimp only; omega))) trivial))))))) (by (repeat (first | exact trivial | refine And.intro (obw_eq rfl (by with_unfolding_all exact rfl)) ?_ | refine And.intro (obw_fr (by with_unfolding_all exact rfl) (by (repeat (first | exact trivial | refine And.intro (by with_unfolding_all exact rfl) ?_)))) ?_))) rfl⟩
    ·intro h2
     (repeat' ((conv=>whnf);first|with_reducible refine gA ?_|(with_reducible first|refine gB ?_|refine gZ (fun x hx hu=>?_)|refine gY (fun x hx=>?_)|refine gE ?_|refine Both.mk ?_ ?_|refine gS (fun h=>?_) (fun h=>?_)|refine Spl.nt ?_|refine Spl.mk (fun h=>?_) (fun h=>?_))))
     exact ⟨⟨[], E3 Tryz.f31 Tryz.f111 rgD d n (.fs 1 (vS way)) v0 v1 v2 (tm1 ((((out1 ++ [(nodV (rdS d) way n s)]) ++ subV (rdS d) 0 (mOf (rdS d) n s) (way ++ [s])).take 64).map encN)), 37⟩, Wk.enF trivial (by (repeat (first | exact trivial | refine And.intro (obw_eq rfl (by with_unfolding_all exact rfl)) ?_ | refine And.intro (obw_fr (by with_unfolding_all exact rfl) (by (repeat (first | exact trivial | refine And.intro (by with_unfolding_all exact rfl) ?_)))) ?_))) rfl, hE2 hk2 h2⟩
   ·(repeat' ((conv=>whnf);first|with_reducible refine gA ?_|(with_reducible first|refine gB ?_|refine gZ (fun x hx hu=>?_)|refine gY (fun x hx=>?_)|refine gE ?_|refine Both.mk ?_ ?_|refine gS (fun h=>?_) (fun h=>?_)|refine Spl.nt ?_|refine Spl.mk (fun h=>?_) (fun h=>?_))))
    exact ⟨(k + 1, out1 ++ [(nodV (rdS d) way n s)]), ⟨hkl, hlo, hT3 hk2⟩, hmu, wk_tr (congrArg (fun O => (⟨slI 32 33 34 37 (nms (rdS d) n) (k + 1), (37, .cells 1 [.yld 36]) :: E3 Tryz.f31 Tryz.f111 rgL d n (.fs 1 (vS way)) v0 v1 v2 (tm0 O), 38⟩ : S)) hmap) (Wk.enF (And.intro rfl (And.intro rfl (And.intro rfl (And.intro rfl (And.intro rfl (And.intro rfl (And.intro (it_eq (by first | omega | (dsimp only; omega))) trivial))))))) (by (repeat (first | exact trivial | refine And.intro (obw_eq rfl (by with_unfolding_all exact rfl)) ?_ | refine And.intro (obw_fr (by with_unfolding_all exact rfl) (by (repeat (first | exact trivial | refine And.intro (by with_unfolding_all exact rfl) ?_)))) ?_))) rfl)⟩
 ·have hN : G .normal ⟨[], E3 Tryz.f31 Tryz.f111 rgL d n (.fs 1 (vS way)) v0 v1 v2 (tm0 (out1.map encN)), 37⟩ := by
   have e : out1 = out ++ subV (rdS d) 1 n way := by
    rw [← hT, List.drop_of_length_le hkl]; exact (List.append_nil _).symm
   have := hA2 (by rw [← e]; exact ho1)
   rw [← e] at this
   exact this
  (repeat' ((conv=>whnf);first|with_reducible refine gA ?_|(with_reducible first|refine gB ?_|refine gZ (fun x hx hu=>?_)|refine gY (fun x hx=>?_)|refine gE ?_|refine Both.mk ?_ ?_|refine gS (fun h=>?_) (fun h=>?_)|refine Spl.nt ?_|refine Spl.mk (fun h=>?_) (fun h=>?_))))
  exact ⟨⟨[], E3 Tryz.f31 Tryz.f111 rgL d n (.fs 1 (vS way)) v0 v1 v2 (tm0 (out1.map encN)), 37⟩, Wk.enF trivial (by (repeat (first | exact trivial | refine And.intro (obw_eq rfl (by with_unfolding_all exact rfl)) ?_ | refine And.intro (obw_fr (by with_unfolding_all exact rfl) (by (repeat (first | exact trivial | refine And.intro (by with_unfolding_all exact rfl) ?_)))) ?_))) rfl, hN⟩
end Go.Proofs.YthknbpijaoljgaaGreatDoor
namespace Go.Proofs.YthknbpijaoljgaaGreatDoor
open Go.Sy
set_option maxHeartbeats 16000000 in
theorem lvl2 (d : Option Dk) (hd : DkOK d) (v0 v1 : Lv) (n : Int) (way : List (List UInt8)) (hw : way.length = 2) (hwn : ∀ s ∈ way, s.length ≤ 8) (out : List Nod) (ho : out.length ≤ 64) (O : List (List D)) (hO : O = out.map encN) (G : Exit → S → Prop)
  (hA1 : (out ++ subV (rdS d) 2 n way).length ≤ 64 → G .ret ⟨[], E2 Tryz.f31 Tryz.f111 rgL d n (.fs 1 (vS way)) v0 v1 (tm0 ((out ++ subV (rdS d) 2 n way).map encN)), 28⟩) (hA2 : (out ++ subV (rdS d) 2 n way).length ≤ 64 → G .normal ⟨[], E2 Tryz.f31 Tryz.f111 rgL d n (.fs 1 (vS way)) v0 v1 (tm0 ((out ++ subV (rdS d) 2 n way).map encN)), 28⟩) (hB : ¬ (out ++ subV (rdS d) 2 n way).length ≤ 64 → G .ret ⟨[], E2 Tryz.f31 Tryz.f111 rgD d n (.fs 1 (vS way)) v0 v1 (tm1 (((out ++ subV (rdS d) 2 n way).take 64).map encN)), 28⟩) :
  vc Tryz.prog ti 72 (bd Tryz.f111) (fun e υ => ∃ τ, Wk 72 υ τ ∧ G e τ) ⟨idx 0 [.yld 27, .ptr 25 0, .ptr 23 0, .ptr 24 0], E2 Tryz.f31 Tryz.f111 rgL d n (.fs 1 (vS way)) v0 v1 (tm0 O), 28⟩ := by
 have hwl : (vS way).length = way.length := List.length_map ..
 have hnl : (vS (nms (rdS d) n)).length = (nms (rdS d) n).length := List.length_map ..
 have hls := list_ok d hd n
 have hkb := nms_len (rdS d) n
 subst hO
 (repeat' ((conv=>whnf);first|with_reducible refine gA ?_|((with_reducible refine callE_id ?_); refine CallE.con ⟨_, hls, ?_⟩)|(with_reducible first|refine gB ?_|refine gZ (fun x hx hu=>?_)|refine gY (fun x hx=>?_)|refine gE ?_|refine Both.mk ?_ ?_|refine gS (fun h=>?_) (fun h=>?_)|refine Spl.nt ?_|refine Spl.mk (fun h=>?_) (fun h=>?_))))
 conv => whnf
 refine LoopS.wk (τ := ⟨slI 23 24 25 28 (nms (rdS d) n) 0, (28, .cells 1 [.yld 27]) :: E2 Tryz.f31 Tryz.f111 rgL d n (.fs 1 (vS way)) v0 v1 (tm0 (out.map encN)), 29⟩) (Wk.enF (by (repeat (first | exact trivial | refine And.intro rfl ?_))) (by (repeat (first | exact trivial | refine And.intro (obw_eq rfl (by with_unfolding_all exact rfl)) ?_ | refine And.intro (obw_fr (by with_unfolding_all exact rfl) (by (repeat (first | exact trivial | refine And.intro (by with_unfolding_all exact rfl) ?_)))) ?_))) rfl) ?_
 refine loop_ruleW ti_ok (fun x : Nat × List Nod => x.1 ≤ (nms (rdS d) n).length ∧ x.2.length ≤ 64 ∧ x.2 ++ subL (rdS d) 1 n way ((nms (rdS d) n).drop x.1) = out ++ subV (rdS d) 2 n way) (fun x : Nat × List Nod => ⟨slI 23 24 25 28 (nms (rdS d) n) x.1, (28, .cells 1 [.yld 27]) :: E2 Tryz.f31 Tryz.f111 rgL d n (.fs 1 (vS way)) v0 v1 (tm0 (x.2.map encN)), 29⟩) (fun x => (nms (rdS d) n).length - x.1) (0, out) ⟨Nat.zero_le _, ho, rfl⟩ (Wk.en ⟨by (repeat (first | exact trivial | refine And.intro rfl ?_)), by (repeat (first | exact trivial | refine And.intro rfl ?_)), rfl⟩) ?_
 intro ⟨k, out1⟩ ⟨k1, ho1, hT⟩
 dsimp only at k1 ho1 hT
 have hol : (out1.map encN).length = out1.length := List.length_map ..
 rcases Nat.lt_or_ge k (nms (rdS d) n).length with hkl | hkl
 ·obtain ⟨s, hs⟩ := lt_get hkl
  have hx : (vS (nms (rdS d) n))[k]? = some [.st s] := by unfold vS; rw [List.getElem?_map, hs]; rfl
  have hsn := name_len (nms_name (rdS d) n s (List.mem_of_getElem? hs))
  have hwn2 : ∀ t ∈ way ++ [s], t.length ≤ 8 := fun t ht => by
   rcases List.mem_append.1 ht with ht | ht
   ·exact hwn t ht
   ·rw [List.mem_singleton.1 ht]; exact hsn
  have hw2 : (way ++ [s]).length = 3 := by rw [List.length_append, hw]; rfl
  have hf := find_ok d hd n s
  rw [fndV_eq] at hf
  have he := entry_ok d hd (kOf (rdS d) n s)
  have hi := inode_ok d hd (mOf (rdS d) n s)
  have hj := join_way (way ++ [s]) hwn2 (by omega) (by simp)
  have hda := data_ok d hd (inoAt (rdS d) (mOf (rdS d) n s)) (inoAt_RI _ _)
  rw [drop_at14 hs, subL_cons] at hT
  have hwo : vS way ++ [[.st s]] = vS (way ++ [s]) := by unfold vS; rw [List.map_append]; rfl
  have htk : (List.take (((vS way).length : Nat) : Int).toNat (vS way)).length ≤ 4 := by rw [List.length_take]; omega
  have hvl : (vS (way ++ [s])).length = 3 := by unfold vS; rw [List.length_map]; exact hw2
  have hwo2 : (vS way).take (((vS way).length : Nat) : Int).toNat ++ [[.st s]] = vS (way ++ [s]) := by rw [List.take_of_length_le (by omega)]; exact hwo
  have hmap : (out1.map encN ++ [encN (nodV (rdS d) way n s)]) = (out1 ++ [(nodV (rdS d) way n s)]).map encN := by rw [List.map_append]; rfl
  have hE : out1.length = 64 → G .ret ⟨[], E2 Tryz.f31 Tryz.f111 rgD d n (.fs 1 (vS way)) v0 v1 (tm1 (out1.map encN)), 28⟩ := fun h => by
   have := hB (by rw [← hT, List.length_append, List.length_cons]; omega)
   rw [← hT, List.take_left' h] at this
   exact this
  have hT2 : (inoAt (rdS d) (mOf (rdS d) n s)).k = 2 → ((out1 ++ [(nodV (rdS d) way n s)]) ++ subV (rdS d) 1 (mOf (rdS d) n s) (way ++ [s])) ++ subL (rdS d) 1 n way ((nms (rdS d) n).drop (k + 1)) = out ++ subV (rdS d) 2 n way := fun h => by
   rw [← hT, if_pos h]; simp only [List.append_assoc, List.cons_append, List.nil_append]
  have hT3 : ¬ (inoAt (rdS d) (mOf (rdS d) n s)).k = 2 → (out1 ++ [(nodV (rdS d) way n s)]) ++ subL (rdS d) 1 n way ((nms (rdS d) n).drop (k + 1)) = out ++ subV (rdS d) 2 n way := fun h => by
   rw [← hT, if_neg h]; simp only [List.append_assoc, List.cons_append, List.nil_append]
  have hE2 : (inoAt (rdS d) (mOf (rdS d) n s)).k = 2 → ¬ ((out1 ++ [(nodV (rdS d) way n s)]) ++ subV (rdS d) 1 (mOf (rdS d) n s) (way ++ [s])).length ≤ 64 → G .ret ⟨[], E2 Tryz.f31 Tryz.f111 rgD d n (.fs 1 (vS way)) v0 v1 (tm1 ((((out1 ++ [(nodV (rdS d) way n s)]) ++ subV (rdS d) 1 (mOf (rdS d) n s) (way ++ [s])).take 64).map encN)), 28⟩ := fun h h2 => by
   have := hB (by rw [← hT2 h, List.length_append]; omega)
   rw [← hT2 h, List.take_append_of_le_length (by omega)] at this
   exact this
  have hmu : (nms (rdS d) n).length - (k + 1) < (nms (rdS d) n).length - k := by omega
  clear hT hB
  (repeat' ((conv=>whnf);first|with_reducible refine gA ?_|((with_reducible refine callE_id ?_); first | refine CallE.con ⟨_, hf, ?_⟩ | refine CallE.con ⟨_, he, ?_⟩ | refine CallE.con ⟨_, hi, ?_⟩ | refine CallE.con ⟨_, hj, ?_⟩ | refine CallE.con ⟨_, hda, ?_⟩ | refine CallE.inl ?_) | refine CallP.mk ⟨_, hj, ?_⟩ | refine CallP.mk ⟨_, hda, ?_⟩|(with_reducible first|refine gB0 ?_|refine gZ (fun x hx hu=>?_)|refine gY (fun x hx=>?_)|refine gE ?_|refine Both.mk ?_ ?_|refine gS (fun h=>?_) (fun h=>?_)|refine Spl.nt ?_|refine Spl.mk (fun h=>?_) (fun h=>?_))))
  refine DrawS.wk (τ := ⟨(9, .d (.it .i64 (mOf (rdS d) n s))) :: (10, .ptr 29 0) :: (11, .d (.fs 1 (vS (way ++ [s])))) :: slI 23 24 25 28 (nms (rdS d) n) k, (30, .tag 29 96) :: (29, .cells 6 ((encI (inoAt (rdS d) (mOf (rdS d) n s))).map .d)) :: (28, .cells 1 [.yld 27]) :: E2 Tryz.f31 Tryz.f111 rgL d n (.fs 1 (vS way)) v0 v1 (tm0 (out1.map encN)), 31⟩) ?_ ?_
  ·exact Wk.vwL (by (repeat (first | exact trivial | refine And.intro (Vw.eq rfl) ?_ | refine And.intro (Vw.ts' hwo2) ?_))) (by (repeat (first | exact trivial | refine And.intro (VwO.same _) ?_))) rfl
  (repeat' ((conv=>whnf);first|with_reducible refine gA ?_|((with_reducible refine callE_id ?_); first | refine CallE.con ⟨_, hf, ?_⟩ | refine CallE.con ⟨_, he, ?_⟩ | refine CallE.con ⟨_, hi, ?_⟩ | refine CallE.con ⟨_, hj, ?_⟩ | refine CallE.con ⟨_, hda, ?_⟩ | refine CallE.inl ?_) | refine CallP.mk ⟨_, hj, ?_⟩ | refine CallP.mk ⟨_, hda, ?_⟩|(with_reducible first|refine gB ?_|refine gZ (fun x hx hu=>?_)|refine gY (fun x hx=>?_)|refine gE ?_|refine Both.mk ?_ ?_|refine gS (fun h=>?_) (fun h=>?_)|refine Spl.nt ?_|refine Spl.mk (fun h=>?_) (fun h=>?_))))
  refine YieldI.post ?_
  refine YieldI.intro ti_ok (by with_unfolding_all exact rfl) (by with_unfolding_all exact rfl) (by with_unfolding_all exact rfl) ?_
  (repeat' ((conv=>whnf);first|with_reducible refine gA ?_|with_reducible refine YieldI.intro ti_ok (by with_unfolding_all exact rfl) (by with_unfolding_all exact rfl) (by with_unfolding_all exact rfl) ?_|(with_reducible first|refine gB ?_|refine gZ (fun x hx hu=>?_)|refine gY (fun x hx=>?_)|refine gE ?_|refine Both.mk ?_ ?_|refine gS (fun h=>?_) (fun h=>?_)|refine Spl.nt ?_|refine Spl.mk (fun h=>?_) (fun h=>?_))))
  ·refine ⟨⟨[(57, .d (.bl false))], E2 Tryz.f31 Tryz.f111 rgD d n (.fs 1 (vS way)) v0 v1 (tm1 (out1.map encN)), 29⟩, Wk.enF (by (repeat (first | exact trivial | refine And.intro rfl ?_))) (by (repeat (first | exact trivial | refine And.intro (obw_eq rfl (by with_unfolding_all exact rfl)) ?_ | refine And.intro (obw_fr (by with_unfolding_all exact rfl) (by (repeat (first | exact trivial | refine And.intro (by with_unfolding_all exact rfl) ?_)))) ?_))) rfl, ?_⟩
   (repeat' ((conv=>whnf);first|with_reducible refine gA ?_|(with_reducible first|refine gB ?_|refine gZ (fun x hx hu=>?_)|refine gY (fun x hx=>?_)|refine gE ?_|refine Both.mk ?_ ?_|refine gS (fun h=>?_) (fun h=>?_)|refine Spl.nt ?_|refine Spl.mk (fun h=>?_) (fun h=>?_))))
   exact ⟨⟨[], E2 Tryz.f31 Tryz.f111 rgD d n (.fs 1 (vS way)) v0 v1 (tm1 (out1.map encN)), 28⟩, Wk.enF trivial (by (repeat (first | exact trivial | refine And.intro (obw_eq rfl (by with_unfolding_all exact rfl)) ?_ | refine And.intro (obw_fr (by with_unfolding_all exact rfl) (by (repeat (first | exact trivial | refine And.intro (by with_unfolding_all exact rfl) ?_)))) ?_))) rfl, hE (by omega)⟩
  ·have hlo : (out1 ++ [(nodV (rdS d) way n s)]).length ≤ 64 := by rw [List.length_append, List.length_singleton]; omega
   refine ⟨⟨(57, .d (.bl true)) :: (9, .d (.it .i64 (mOf (rdS d) n s))) :: (10, .ptr 29 0) :: (11, .d (.fs 1 (vS (way ++ [s])))) :: slI 23 24 25 28 (nms (rdS d) n) k, (30, .tag 29 96) :: (29, .cells 6 ((encI (inoAt (rdS d) (mOf (rdS d) n s))).map .d)) :: (28, .cells 1 [.yld 27]) :: E2 Tryz.f31 Tryz.f111 rgL d n (.fs 1 (vS way)) v0 v1 (tm0 (out1.map encN ++ [encN (nodV (rdS d) way n s)])), 31⟩, Wk.enF (by (repeat (first | exact trivial | refine And.intro rfl ?_))) (by (repeat (first | exact trivial | refine And.intro (obw_eq rfl (by with_unfolding_all exact rfl)) ?_ | refine And.intro (obw_fr (by with_unfolding_all exact rfl) (by (repeat (first | exact trivial | refine And.intro (by with_unfolding_all exact rfl) ?_)))) ?_))) rfl, ?_⟩
   by_cases hk2 : (inoAt (rdS d) (mOf (rdS d) n s)).k = 2
   ·(repeat' ((conv=>whnf);first|with_reducible refine gA ?_|((with_reducible refine callE_id ?_); refine CallE.inl ?_) | with_reducible refine CallI.inl ti_ok i73 rfl ?_|(with_reducible first|refine gB ?_|refine gZ (fun x hx hu=>?_)|refine gY (fun x hx=>?_)|refine gE ?_|refine Both.mk ?_ ?_|refine gS (fun h=>?_) (fun h=>?_)|refine Spl.nt ?_|refine Spl.mk (fun h=>?_) (fun h=>?_))))
    conv => whnf
    refine RangeS.wk (τ := ⟨slI 23 24 25 28 (nms (rdS d) n) k ++ [(65, clo 32 33 34)], c3 d (mOf (rdS d) n s) (.fs 1 (vS (way ++ [s]))) 32 33 34 ++ (28, .cells 1 [.yld 27]) :: E2 Tryz.f31 Tryz.f111 rgL d n (.fs 1 (vS way)) v0 v1 (tm0 (out1.map encN ++ [encN (nodV (rdS d) way n s)])), 35⟩) (Wk.enF (by (repeat (first | exact trivial | refine And.intro rfl ?_))) (by (repeat (first | exact trivial | refine And.intro (obw_eq rfl (by with_unfolding_all exact rfl)) ?_ | refine And.intro (obw_fr (by with_unfolding_all exact rfl) (by (repeat (first | exact trivial | refine And.intro (by with_unfolding_all exact rfl) ?_)))) ?_))) rfl) ?_
    refine RangeS.introW ti_ok i111 rfl rfl (lvl3 d hd v0 v1 ⟨nms (rdS d) n, k, n, .fs 1 (vS way)⟩ (mOf (rdS d) n s) (way ++ [s]) hw2 hwn2 (out1 ++ [(nodV (rdS d) way n s)]) hlo (out1.map encN ++ [encN (nodV (rdS d) way n s)]) hmap _ ?_ ?_ ?_)
    ·intro h2
     (repeat' ((conv=>whnf);first|with_reducible refine gA ?_|(with_reducible first|refine gB ?_|refine gZ (fun x hx hu=>?_)|refine gY (fun x hx=>?_)|refine gE ?_|refine Both.mk ?_ ?_|refine gS (fun h=>?_) (fun h=>?_)|refine Spl.nt ?_|refine Spl.mk (fun h=>?_) (fun h=>?_))))
     exact ⟨(k + 1, (out1 ++ [(nodV (rdS d) way n s)]) ++ subV (rdS d) 1 (mOf (rdS d) n s) (way ++ [s])), ⟨hkl, h2, hT2 hk2⟩, by dsimp only; omega, Wk.enF (And.intro rfl (And.intro rfl (And.intro rfl (And.intro rfl (And.intro rfl (And.intro rfl (And.intro (it_eq (by first | omega | (dsimp only; omega))) trivial))))))) (by (repeat (first | exact trivial | refine And.intro (obw_eq rfl (by with_unfolding_all exact rfl)) ?_ | refine And.intro (obw_fr (by with_unfolding_all exact rfl) (by (repeat (first | exact trivial | refine And.intro (by with_unfolding_all exact rfl) ?_)))) ?_))) rfl⟩
    ·intro h2
     (repeat' ((conv=>whnf);first|with_reducible refine gA ?_|(with_reducible first|refine gB ?_|refine gZ (fun x hx hu=>?_)|refine gY (fun x hx=>?_)|refine gE ?_|refine Both.mk ?_ ?_|refine gS (fun h=>?_) (fun h=>?_)|refine Spl.nt ?_|refine Spl.mk (fun h=>?_) (fun h=>?_))))
     exact ⟨(k + 1, (out1 ++ [(nodV (rdS d) way n s)]) ++ subV (rdS d) 1 (mOf (rdS d) n s) (way ++ [s])), ⟨hkl, h2, hT2 hk2⟩, by dsimp only; omega, Wk.enF (And.intro rfl (And.intro rfl (And.intro rfl (And.intro rfl (And.intro rfl (And.intro rfl (And.intro (it_eq (by first | omega | (dsimp only; omega))) trivial))))))) (by (repeat (first | exact trivial | refine And.intro (obw_eq rfl (by with_unfolding_all exact rfl)) ?_ | refine And.intro (obw_fr (by with_unfolding_all exact rfl) (by (repeat (first | exact trivial | refine And.intro (by with_unfolding_all exact rfl) ?_)))) ?_))) rfl⟩
    ·intro h2
     (repeat' ((conv=>whnf);first|with_reducible refine gA ?_|(with_reducible first|refine gB ?_|refine gZ (fun x hx hu=>?_)|refine gY (fun x hx=>?_)|refine gE ?_|refine Both.mk ?_ ?_|refine gS (fun h=>?_) (fun h=>?_)|refine Spl.nt ?_|refine Spl.mk (fun h=>?_) (fun h=>?_))))
     exact ⟨⟨[], E2 Tryz.f31 Tryz.f111 rgD d n (.fs 1 (vS way)) v0 v1 (tm1 ((((out1 ++ [(nodV (rdS d) way n s)]) ++ subV (rdS d) 1 (mOf (rdS d) n s) (way ++ [s])).take 64).map encN)), 28⟩, Wk.enF trivial (by (repeat (first | exact trivial | refine And.intro (obw_eq rfl (by with_unfolding_all exact rfl)) ?_ | refine And.intro (obw_fr (by with_unfolding_all exact rfl) (by (repeat (first | exact trivial | refine And.intro (by with_unfolding_all exact rfl) ?_)))) ?_))) rfl, hE2 hk2 h2⟩
   ·(repeat' ((conv=>whnf);first|with_reducible refine gA ?_|(with_reducible first|refine gB ?_|refine gZ (fun x hx hu=>?_)|refine gY (fun x hx=>?_)|refine gE ?_|refine Both.mk ?_ ?_|refine gS (fun h=>?_) (fun h=>?_)|refine Spl.nt ?_|refine Spl.mk (fun h=>?_) (fun h=>?_))))
    exact ⟨(k + 1, out1 ++ [(nodV (rdS d) way n s)]), ⟨hkl, hlo, hT3 hk2⟩, hmu, wk_tr (congrArg (fun O => (⟨slI 23 24 25 28 (nms (rdS d) n) (k + 1), (28, .cells 1 [.yld 27]) :: E2 Tryz.f31 Tryz.f111 rgL d n (.fs 1 (vS way)) v0 v1 (tm0 O), 29⟩ : S)) hmap) (Wk.enF (And.intro rfl (And.intro rfl (And.intro rfl (And.intro rfl (And.intro rfl (And.intro rfl (And.intro (it_eq (by first | omega | (dsimp only; omega))) trivial))))))) (by (repeat (first | exact trivial | refine And.intro (obw_eq rfl (by with_unfolding_all exact rfl)) ?_ | refine And.intro (obw_fr (by with_unfolding_all exact rfl) (by (repeat (first | exact trivial | refine And.intro (by with_unfolding_all exact rfl) ?_)))) ?_))) rfl)⟩
 ·have hN : G .normal ⟨[], E2 Tryz.f31 Tryz.f111 rgL d n (.fs 1 (vS way)) v0 v1 (tm0 (out1.map encN)), 28⟩ := by
   have e : out1 = out ++ subV (rdS d) 2 n way := by
    rw [← hT, List.drop_of_length_le hkl]; exact (List.append_nil _).symm
   have := hA2 (by rw [← e]; exact ho1)
   rw [← e] at this
   exact this
  (repeat' ((conv=>whnf);first|with_reducible refine gA ?_|(with_reducible first|refine gB ?_|refine gZ (fun x hx hu=>?_)|refine gY (fun x hx=>?_)|refine gE ?_|refine Both.mk ?_ ?_|refine gS (fun h=>?_) (fun h=>?_)|refine Spl.nt ?_|refine Spl.mk (fun h=>?_) (fun h=>?_))))
  exact ⟨⟨[], E2 Tryz.f31 Tryz.f111 rgL d n (.fs 1 (vS way)) v0 v1 (tm0 (out1.map encN)), 28⟩, Wk.enF trivial (by (repeat (first | exact trivial | refine And.intro (obw_eq rfl (by with_unfolding_all exact rfl)) ?_ | refine And.intro (obw_fr (by with_unfolding_all exact rfl) (by (repeat (first | exact trivial | refine And.intro (by with_unfolding_all exact rfl) ?_)))) ?_))) rfl, hN⟩
end Go.Proofs.YthknbpijaoljgaaGreatDoor
namespace Go.Proofs.YthknbpijaoljgaaGreatDoor
open Go.Sy
set_option maxHeartbeats 16000000 in
theorem lvl1 (d : Option Dk) (hd : DkOK d) (v0 : Lv) (n : Int) (way : List (List UInt8)) (hw : way.length = 1) (hwn : ∀ s ∈ way, s.length ≤ 8) (out : List Nod) (ho : out.length ≤ 64) (O : List (List D)) (hO : O = out.map encN) (G : Exit → S → Prop)
  (hA1 : (out ++ subV (rdS d) 3 n way).length ≤ 64 → G .ret ⟨[], E1 Tryz.f31 Tryz.f111 rgL d n (.fs 1 (vS way)) v0 (tm0 ((out ++ subV (rdS d) 3 n way).map encN)), 19⟩) (hA2 : (out ++ subV (rdS d) 3 n way).length ≤ 64 → G .normal ⟨[], E1 Tryz.f31 Tryz.f111 rgL d n (.fs 1 (vS way)) v0 (tm0 ((out ++ subV (rdS d) 3 n way).map encN)), 19⟩) (hB : ¬ (out ++ subV (rdS d) 3 n way).length ≤ 64 → G .ret ⟨[], E1 Tryz.f31 Tryz.f111 rgD d n (.fs 1 (vS way)) v0 (tm1 (((out ++ subV (rdS d) 3 n way).take 64).map encN)), 19⟩) :
  vc Tryz.prog ti 72 (bd Tryz.f111) (fun e υ => ∃ τ, Wk 72 υ τ ∧ G e τ) ⟨idx 0 [.yld 18, .ptr 16 0, .ptr 14 0, .ptr 15 0], E1 Tryz.f31 Tryz.f111 rgL d n (.fs 1 (vS way)) v0 (tm0 O), 19⟩ := by
 have hwl : (vS way).length = way.length := List.length_map ..
 have hnl : (vS (nms (rdS d) n)).length = (nms (rdS d) n).length := List.length_map ..
 have hls := list_ok d hd n
 have hkb := nms_len (rdS d) n
 subst hO
 (repeat' ((conv=>whnf);first|with_reducible refine gA ?_|((with_reducible refine callE_id ?_); refine CallE.con ⟨_, hls, ?_⟩)|(with_reducible first|refine gB ?_|refine gZ (fun x hx hu=>?_)|refine gY (fun x hx=>?_)|refine gE ?_|refine Both.mk ?_ ?_|refine gS (fun h=>?_) (fun h=>?_)|refine Spl.nt ?_|refine Spl.mk (fun h=>?_) (fun h=>?_))))
 conv => whnf
 refine LoopS.wk (τ := ⟨slI 14 15 16 19 (nms (rdS d) n) 0, (19, .cells 1 [.yld 18]) :: E1 Tryz.f31 Tryz.f111 rgL d n (.fs 1 (vS way)) v0 (tm0 (out.map encN)), 20⟩) (Wk.enF (by (repeat (first | exact trivial | refine And.intro rfl ?_))) (by (repeat (first | exact trivial | refine And.intro (obw_eq rfl (by with_unfolding_all exact rfl)) ?_ | refine And.intro (obw_fr (by with_unfolding_all exact rfl) (by (repeat (first | exact trivial | refine And.intro (by with_unfolding_all exact rfl) ?_)))) ?_))) rfl) ?_
 refine loop_ruleW ti_ok (fun x : Nat × List Nod => x.1 ≤ (nms (rdS d) n).length ∧ x.2.length ≤ 64 ∧ x.2 ++ subL (rdS d) 2 n way ((nms (rdS d) n).drop x.1) = out ++ subV (rdS d) 3 n way) (fun x : Nat × List Nod => ⟨slI 14 15 16 19 (nms (rdS d) n) x.1, (19, .cells 1 [.yld 18]) :: E1 Tryz.f31 Tryz.f111 rgL d n (.fs 1 (vS way)) v0 (tm0 (x.2.map encN)), 20⟩) (fun x => (nms (rdS d) n).length - x.1) (0, out) ⟨Nat.zero_le _, ho, rfl⟩ (Wk.en ⟨by (repeat (first | exact trivial | refine And.intro rfl ?_)), by (repeat (first | exact trivial | refine And.intro rfl ?_)), rfl⟩) ?_
 intro ⟨k, out1⟩ ⟨k1, ho1, hT⟩
 dsimp only at k1 ho1 hT
 have hol : (out1.map encN).length = out1.length := List.length_map ..
 rcases Nat.lt_or_ge k (nms (rdS d) n).length with hkl | hkl
 ·obtain ⟨s, hs⟩ := lt_get hkl
  have hx : (vS (nms (rdS d) n))[k]? = some [.st s] := by unfold vS; rw [List.getElem?_map, hs]; rfl
  have hsn := name_len (nms_name (rdS d) n s (List.mem_of_getElem? hs))
  have hwn2 : ∀ t ∈ way ++ [s], t.length ≤ 8 := fun t ht => by
   rcases List.mem_append.1 ht with ht | ht
   ·exact hwn t ht
   ·rw [List.mem_singleton.1 ht]; exact hsn
  have hw2 : (way ++ [s]).length = 2 := by rw [List.length_append, hw]; rfl
  have hf := find_ok d hd n s
  rw [fndV_eq] at hf
  have he := entry_ok d hd (kOf (rdS d) n s)
  have hi := inode_ok d hd (mOf (rdS d) n s)
  have hj := join_way (way ++ [s]) hwn2 (by omega) (by simp)
  have hda := data_ok d hd (inoAt (rdS d) (mOf (rdS d) n s)) (inoAt_RI _ _)
  rw [drop_at14 hs, subL_cons] at hT
  have hwo : vS way ++ [[.st s]] = vS (way ++ [s]) := by unfold vS; rw [List.map_append]; rfl
  have htk : (List.take (((vS way).length : Nat) : Int).toNat (vS way)).length ≤ 4 := by rw [List.length_take]; omega
  have hvl : (vS (way ++ [s])).length = 2 := by unfold vS; rw [List.length_map]; exact hw2
  have hwo2 : (vS way).take (((vS way).length : Nat) : Int).toNat ++ [[.st s]] = vS (way ++ [s]) := by rw [List.take_of_length_le (by omega)]; exact hwo
  have hmap : (out1.map encN ++ [encN (nodV (rdS d) way n s)]) = (out1 ++ [(nodV (rdS d) way n s)]).map encN := by rw [List.map_append]; rfl
  have hE : out1.length = 64 → G .ret ⟨[], E1 Tryz.f31 Tryz.f111 rgD d n (.fs 1 (vS way)) v0 (tm1 (out1.map encN)), 19⟩ := fun h => by
   have := hB (by rw [← hT, List.length_append, List.length_cons]; omega)
   rw [← hT, List.take_left' h] at this
   exact this
  have hT2 : (inoAt (rdS d) (mOf (rdS d) n s)).k = 2 → ((out1 ++ [(nodV (rdS d) way n s)]) ++ subV (rdS d) 2 (mOf (rdS d) n s) (way ++ [s])) ++ subL (rdS d) 2 n way ((nms (rdS d) n).drop (k + 1)) = out ++ subV (rdS d) 3 n way := fun h => by
   rw [← hT, if_pos h]; simp only [List.append_assoc, List.cons_append, List.nil_append]
  have hT3 : ¬ (inoAt (rdS d) (mOf (rdS d) n s)).k = 2 → (out1 ++ [(nodV (rdS d) way n s)]) ++ subL (rdS d) 2 n way ((nms (rdS d) n).drop (k + 1)) = out ++ subV (rdS d) 3 n way := fun h => by
   rw [← hT, if_neg h]; simp only [List.append_assoc, List.cons_append, List.nil_append]
  have hE2 : (inoAt (rdS d) (mOf (rdS d) n s)).k = 2 → ¬ ((out1 ++ [(nodV (rdS d) way n s)]) ++ subV (rdS d) 2 (mOf (rdS d) n s) (way ++ [s])).length ≤ 64 → G .ret ⟨[], E1 Tryz.f31 Tryz.f111 rgD d n (.fs 1 (vS way)) v0 (tm1 ((((out1 ++ [(nodV (rdS d) way n s)]) ++ subV (rdS d) 2 (mOf (rdS d) n s) (way ++ [s])).take 64).map encN)), 19⟩ := fun h h2 => by
   have := hB (by rw [← hT2 h, List.length_append]; omega)
   rw [← hT2 h, List.take_append_of_le_length (by omega)] at this
   exact this
  have hmu : (nms (rdS d) n).length - (k + 1) < (nms (rdS d) n).length - k := by omega
  clear hT hB
  (repeat' ((conv=>whnf);first|with_reducible refine gA ?_|((with_reducible refine callE_id ?_); first | refine CallE.con ⟨_, hf, ?_⟩ | refine CallE.con ⟨_, he, ?_⟩ | refine CallE.con ⟨_, hi, ?_⟩ | refine CallE.con ⟨_, hj, ?_⟩ | refine CallE.con ⟨_, hda, ?_⟩ | refine CallE.inl ?_) | refine CallP.mk ⟨_, hj, ?_⟩ | refine CallP.mk ⟨_, hda, ?_⟩|(with_reducible first|refine gB0 ?_|refine gZ (fun x hx hu=>?_)|refine gY (fun x hx=>?_)|refine gE ?_|refine Both.mk ?_ ?_|refine gS (fun h=>?_) (fun h=>?_)|refine Spl.nt ?_|refine Spl.mk (fun h=>?_) (fun h=>?_))))
  refine DrawS.wk (τ := ⟨(9, .d (.it .i64 (mOf (rdS d) n s))) :: (10, .ptr 20 0) :: (11, .d (.fs 1 (vS (way ++ [s])))) :: slI 14 15 16 19 (nms (rdS d) n) k, (21, .tag 20 96) :: (20, .cells 6 ((encI (inoAt (rdS d) (mOf (rdS d) n s))).map .d)) :: (19, .cells 1 [.yld 18]) :: E1 Tryz.f31 Tryz.f111 rgL d n (.fs 1 (vS way)) v0 (tm0 (out1.map encN)), 22⟩) ?_ ?_
  ·exact Wk.vwL (by (repeat (first | exact trivial | refine And.intro (Vw.eq rfl) ?_ | refine And.intro (Vw.ts' hwo2) ?_))) (by (repeat (first | exact trivial | refine And.intro (VwO.same _) ?_))) rfl
  (repeat' ((conv=>whnf);first|with_reducible refine gA ?_|((with_reducible refine callE_id ?_); first | refine CallE.con ⟨_, hf, ?_⟩ | refine CallE.con ⟨_, he, ?_⟩ | refine CallE.con ⟨_, hi, ?_⟩ | refine CallE.con ⟨_, hj, ?_⟩ | refine CallE.con ⟨_, hda, ?_⟩ | refine CallE.inl ?_) | refine CallP.mk ⟨_, hj, ?_⟩ | refine CallP.mk ⟨_, hda, ?_⟩|(with_reducible first|refine gB ?_|refine gZ (fun x hx hu=>?_)|refine gY (fun x hx=>?_)|refine gE ?_|refine Both.mk ?_ ?_|refine gS (fun h=>?_) (fun h=>?_)|refine Spl.nt ?_|refine Spl.mk (fun h=>?_) (fun h=>?_))))
  refine YieldI.post ?_
  refine YieldI.intro ti_ok (by with_unfolding_all exact rfl) (by with_unfolding_all exact rfl) (by with_unfolding_all exact rfl) ?_
  (repeat' ((conv=>whnf);first|with_reducible refine gA ?_|with_reducible refine YieldI.intro ti_ok (by with_unfolding_all exact rfl) (by with_unfolding_all exact rfl) (by with_unfolding_all exact rfl) ?_|(with_reducible first|refine gB ?_|refine gZ (fun x hx hu=>?_)|refine gY (fun x hx=>?_)|refine gE ?_|refine Both.mk ?_ ?_|refine gS (fun h=>?_) (fun h=>?_)|refine Spl.nt ?_|refine Spl.mk (fun h=>?_) (fun h=>?_))))
  ·refine ⟨⟨[(57, .d (.bl false))], E1 Tryz.f31 Tryz.f111 rgD d n (.fs 1 (vS way)) v0 (tm1 (out1.map encN)), 20⟩, Wk.enF (by (repeat (first | exact trivial | refine And.intro rfl ?_))) (by (repeat (first | exact trivial | refine And.intro (obw_eq rfl (by with_unfolding_all exact rfl)) ?_ | refine And.intro (obw_fr (by with_unfolding_all exact rfl) (by (repeat (first | exact trivial | refine And.intro (by with_unfolding_all exact rfl) ?_)))) ?_))) rfl, ?_⟩
   (repeat' ((conv=>whnf);first|with_reducible refine gA ?_|(with_reducible first|refine gB ?_|refine gZ (fun x hx hu=>?_)|refine gY (fun x hx=>?_)|refine gE ?_|refine Both.mk ?_ ?_|refine gS (fun h=>?_) (fun h=>?_)|refine Spl.nt ?_|refine Spl.mk (fun h=>?_) (fun h=>?_))))
   exact ⟨⟨[], E1 Tryz.f31 Tryz.f111 rgD d n (.fs 1 (vS way)) v0 (tm1 (out1.map encN)), 19⟩, Wk.enF trivial (by (repeat (first | exact trivial | refine And.intro (obw_eq rfl (by with_unfolding_all exact rfl)) ?_ | refine And.intro (obw_fr (by with_unfolding_all exact rfl) (by (repeat (first | exact trivial | refine And.intro (by with_unfolding_all exact rfl) ?_)))) ?_))) rfl, hE (by omega)⟩
  ·have hlo : (out1 ++ [(nodV (rdS d) way n s)]).length ≤ 64 := by rw [List.length_append, List.length_singleton]; omega
   refine ⟨⟨(57, .d (.bl true)) :: (9, .d (.it .i64 (mOf (rdS d) n s))) :: (10, .ptr 20 0) :: (11, .d (.fs 1 (vS (way ++ [s])))) :: slI 14 15 16 19 (nms (rdS d) n) k, (21, .tag 20 96) :: (20, .cells 6 ((encI (inoAt (rdS d) (mOf (rdS d) n s))).map .d)) :: (19, .cells 1 [.yld 18]) :: E1 Tryz.f31 Tryz.f111 rgL d n (.fs 1 (vS way)) v0 (tm0 (out1.map encN ++ [encN (nodV (rdS d) way n s)])), 22⟩, Wk.enF (by (repeat (first | exact trivial | refine And.intro rfl ?_))) (by (repeat (first | exact trivial | refine And.intro (obw_eq rfl (by with_unfolding_all exact rfl)) ?_ | refine And.intro (obw_fr (by with_unfolding_all exact rfl) (by (repeat (first | exact trivial | refine And.intro (by with_unfolding_all exact rfl) ?_)))) ?_))) rfl, ?_⟩
   by_cases hk2 : (inoAt (rdS d) (mOf (rdS d) n s)).k = 2
   ·(repeat' ((conv=>whnf);first|with_reducible refine gA ?_|((with_reducible refine callE_id ?_); refine CallE.inl ?_) | with_reducible refine CallI.inl ti_ok i73 rfl ?_|(with_reducible first|refine gB ?_|refine gZ (fun x hx hu=>?_)|refine gY (fun x hx=>?_)|refine gE ?_|refine Both.mk ?_ ?_|refine gS (fun h=>?_) (fun h=>?_)|refine Spl.nt ?_|refine Spl.mk (fun h=>?_) (fun h=>?_))))
    conv => whnf
    refine RangeS.wk (τ := ⟨slI 14 15 16 19 (nms (rdS d) n) k ++ [(65, clo 23 24 25)], c3 d (mOf (rdS d) n s) (.fs 1 (vS (way ++ [s]))) 23 24 25 ++ (19, .cells 1 [.yld 18]) :: E1 Tryz.f31 Tryz.f111 rgL d n (.fs 1 (vS way)) v0 (tm0 (out1.map encN ++ [encN (nodV (rdS d) way n s)])), 26⟩) (Wk.enF (by (repeat (first | exact trivial | refine And.intro rfl ?_))) (by (repeat (first | exact trivial | refine And.intro (obw_eq rfl (by with_unfolding_all exact rfl)) ?_ | refine And.intro (obw_fr (by with_unfolding_all exact rfl) (by (repeat (first | exact trivial | refine And.intro (by with_unfolding_all exact rfl) ?_)))) ?_))) rfl) ?_
    refine RangeS.introW ti_ok i111 rfl rfl (lvl2 d hd v0 ⟨nms (rdS d) n, k, n, .fs 1 (vS way)⟩ (mOf (rdS d) n s) (way ++ [s]) hw2 hwn2 (out1 ++ [(nodV (rdS d) way n s)]) hlo (out1.map encN ++ [encN (nodV (rdS d) way n s)]) hmap _ ?_ ?_ ?_)
    ·intro h2
     (repeat' ((conv=>whnf);first|with_reducible refine gA ?_|(with_reducible first|refine gB ?_|refine gZ (fun x hx hu=>?_)|refine gY (fun x hx=>?_)|refine gE ?_|refine Both.mk ?_ ?_|refine gS (fun h=>?_) (fun h=>?_)|refine Spl.nt ?_|refine Spl.mk (fun h=>?_) (fun h=>?_))))
     exact ⟨(k + 1, (out1 ++ [(nodV (rdS d) way n s)]) ++ subV (rdS d) 2 (mOf (rdS d) n s) (way ++ [s])), ⟨hkl, h2, hT2 hk2⟩, by dsimp only; omega, Wk.enF (And.intro rfl (And.intro rfl (And.intro rfl (And.intro rfl (And.intro rfl (And.intro rfl (And.intro (it_eq (by first | omega | (dsimp only; omega))) trivial))))))) (by (repeat (first | exact trivial | refine And.intro (obw_eq rfl (by with_unfolding_all exact rfl)) ?_ | refine And.intro (obw_fr (by with_unfolding_all exact rfl) (by (repeat (first | exact trivial | refine And.intro (by with_unfolding_all exact rfl) ?_)))) ?_))) rfl⟩
    ·intro h2
     (repeat' ((conv=>whnf);first|with_reducible refine gA ?_|(with_reducible first|refine gB ?_|refine gZ (fun x hx hu=>?_)|refine gY (fun x hx=>?_)|refine gE ?_|refine Both.mk ?_ ?_|refine gS (fun h=>?_) (fun h=>?_)|refine Spl.nt ?_|refine Spl.mk (fun h=>?_) (fun h=>?_))))
     exact ⟨(k + 1, (out1 ++ [(nodV (rdS d) way n s)]) ++ subV (rdS d) 2 (mOf (rdS d) n s) (way ++ [s])), ⟨hkl, h2, hT2 hk2⟩, by dsimp only; omega, Wk.enF (And.intro rfl (And.intro rfl (And.intro rfl (And.intro rfl (And.intro rfl (And.intro rfl (And.intro (it_eq (by first | omega | (dsimp only; omega))) trivial))))))) (by (repeat (first | exact trivial | refine And.intro (obw_eq rfl (by with_unfolding_all exact rfl)) ?_ | refine And.intro (obw_fr (by with_unfolding_all exact rfl) (by (repeat (first | exact trivial | refine And.intro (by with_unfolding_all exact rfl) ?_)))) ?_))) rfl⟩
    ·intro h2
     (repeat' ((conv=>whnf);first|with_reducible refine gA ?_|(with_reducible first|refine gB ?_|refine gZ (fun x hx hu=>?_)|refine gY (fun x hx=>?_)|refine gE ?_|refine Both.mk ?_ ?_|refine gS (fun h=>?_) (fun h=>?_)|refine Spl.nt ?_|refine Spl.mk (fun h=>?_) (fun h=>?_))))
     exact ⟨⟨[], E1 Tryz.f31 Tryz.f111 rgD d n (.fs 1 (vS way)) v0 (tm1 ((((out1 ++ [(nodV (rdS d) way n s)]) ++ subV (rdS d) 2 (mOf (rdS d) n s) (way ++ [s])).take 64).map encN)), 19⟩, Wk.enF trivial (by (repeat (first | exact trivial | refine And.intro (obw_eq rfl (by with_unfolding_all exact rfl)) ?_ | refine And.intro (obw_fr (by with_unfolding_all exact rfl) (by (repeat (first | exact trivial | refine And.intro (by with_unfolding_all exact rfl) ?_)))) ?_))) rfl, hE2 hk2 h2⟩
   ·(repeat' ((conv=>whnf);first|with_reducible refine gA ?_|(with_reducible first|refine gB ?_|refine gZ (fun x hx hu=>?_)|refine gY (fun x hx=>?_)|refine gE ?_|refine Both.mk ?_ ?_|refine gS (fun h=>?_) (fun h=>?_)|refine Spl.nt ?_|refine Spl.mk (fun h=>?_) (fun h=>?_))))
    exact ⟨(k + 1, out1 ++ [(nodV (rdS d) way n s)]), ⟨hkl, hlo, hT3 hk2⟩, hmu, wk_tr (congrArg (fun O => (⟨slI 14 15 16 19 (nms (rdS d) n) (k + 1), (19, .cells 1 [.yld 18]) :: E1 Tryz.f31 Tryz.f111 rgL d n (.fs 1 (vS way)) v0 (tm0 O), 20⟩ : S)) hmap) (Wk.enF (And.intro rfl (And.intro rfl (And.intro rfl (And.intro rfl (And.intro rfl (And.intro rfl (And.intro (it_eq (by first | omega | (dsimp only; omega))) trivial))))))) (by (repeat (first | exact trivial | refine And.intro (obw_eq rfl (by with_unfolding_all exact rfl)) ?_ | refine And.intro (obw_fr (by with_unfolding_all exact rfl) (by (repeat (first | exact trivial | refine And.intro (by with_unfolding_all exact rfl) ?_)))) ?_))) rfl)⟩
 ·have hN : G .normal ⟨[], E1 Tryz.f31 Tryz.f111 rgL d n (.fs 1 (vS way)) v0 (tm0 (out1.map encN)), 19⟩ := by
   have e : out1 = out ++ subV (rdS d) 3 n way := by
    rw [← hT, List.drop_of_length_le hkl]; exact (List.append_nil _).symm
   have := hA2 (by rw [← e]; exact ho1)
   rw [← e] at this
   exact this
  (repeat' ((conv=>whnf);first|with_reducible refine gA ?_|(with_reducible first|refine gB ?_|refine gZ (fun x hx hu=>?_)|refine gY (fun x hx=>?_)|refine gE ?_|refine Both.mk ?_ ?_|refine gS (fun h=>?_) (fun h=>?_)|refine Spl.nt ?_|refine Spl.mk (fun h=>?_) (fun h=>?_))))
  exact ⟨⟨[], E1 Tryz.f31 Tryz.f111 rgL d n (.fs 1 (vS way)) v0 (tm0 (out1.map encN)), 19⟩, Wk.enF trivial (by (repeat (first | exact trivial | refine And.intro (obw_eq rfl (by with_unfolding_all exact rfl)) ?_ | refine And.intro (obw_fr (by with_unfolding_all exact rfl) (by (repeat (first | exact trivial | refine And.intro (by with_unfolding_all exact rfl) ?_)))) ?_))) rfl, hN⟩
end Go.Proofs.YthknbpijaoljgaaGreatDoor
namespace Go.Proofs.YthknbpijaoljgaaGreatDoor
open Go.Sy
set_option maxHeartbeats 16000000 in
theorem lvl0 (d : Option Dk) (hd : DkOK d) (n : Int) (way : List (List UInt8)) (hw : way.length = 0) (hwn : ∀ s ∈ way, s.length ≤ 8) (out : List Nod) (ho : out.length ≤ 64) (O : List (List D)) (hO : O = out.map encN) (G : Exit → S → Prop)
  (hA1 : (out ++ subV (rdS d) 4 n way).length ≤ 64 → G .ret ⟨[], E0 Tryz.f31 Tryz.f111 rgL d n (.fs 1 (vS way))  (tm0 ((out ++ subV (rdS d) 4 n way).map encN)), 10⟩) (hA2 : (out ++ subV (rdS d) 4 n way).length ≤ 64 → G .normal ⟨[], E0 Tryz.f31 Tryz.f111 rgL d n (.fs 1 (vS way))  (tm0 ((out ++ subV (rdS d) 4 n way).map encN)), 10⟩) (hB : ¬ (out ++ subV (rdS d) 4 n way).length ≤ 64 → G .ret ⟨[], E0 Tryz.f31 Tryz.f111 rgD d n (.fs 1 (vS way))  (tm1 (((out ++ subV (rdS d) 4 n way).take 64).map encN)), 10⟩) :
  vc Tryz.prog ti 72 (bd Tryz.f111) (fun e υ => ∃ τ, Wk 72 υ τ ∧ G e τ) ⟨idx 0 [.yld 9, .ptr 6 0, .ptr 4 0, .ptr 5 0], E0 Tryz.f31 Tryz.f111 rgL d n (.fs 1 (vS way))  (tm0 O), 10⟩ := by
 have hwl : (vS way).length = way.length := List.length_map ..
 have hnl : (vS (nms (rdS d) n)).length = (nms (rdS d) n).length := List.length_map ..
 have hls := list_ok d hd n
 have hkb := nms_len (rdS d) n
 subst hO
 (repeat' ((conv=>whnf);first|with_reducible refine gA ?_|((with_reducible refine callE_id ?_); refine CallE.con ⟨_, hls, ?_⟩)|(with_reducible first|refine gB ?_|refine gZ (fun x hx hu=>?_)|refine gY (fun x hx=>?_)|refine gE ?_|refine Both.mk ?_ ?_|refine gS (fun h=>?_) (fun h=>?_)|refine Spl.nt ?_|refine Spl.mk (fun h=>?_) (fun h=>?_))))
 conv => whnf
 refine LoopS.wk (τ := ⟨slI 4 5 6 10 (nms (rdS d) n) 0, (10, .cells 1 [.yld 9]) :: E0 Tryz.f31 Tryz.f111 rgL d n (.fs 1 (vS way))  (tm0 (out.map encN)), 11⟩) (Wk.enF (by (repeat (first | exact trivial | refine And.intro rfl ?_))) (by (repeat (first | exact trivial | refine And.intro (obw_eq rfl (by with_unfolding_all exact rfl)) ?_ | refine And.intro (obw_fr (by with_unfolding_all exact rfl) (by (repeat (first | exact trivial | refine And.intro (by with_unfolding_all exact rfl) ?_)))) ?_))) rfl) ?_
 refine loop_ruleW ti_ok (fun x : Nat × List Nod => x.1 ≤ (nms (rdS d) n).length ∧ x.2.length ≤ 64 ∧ x.2 ++ subL (rdS d) 3 n way ((nms (rdS d) n).drop x.1) = out ++ subV (rdS d) 4 n way) (fun x : Nat × List Nod => ⟨slI 4 5 6 10 (nms (rdS d) n) x.1, (10, .cells 1 [.yld 9]) :: E0 Tryz.f31 Tryz.f111 rgL d n (.fs 1 (vS way))  (tm0 (x.2.map encN)), 11⟩) (fun x => (nms (rdS d) n).length - x.1) (0, out) ⟨Nat.zero_le _, ho, rfl⟩ (Wk.en ⟨by (repeat (first | exact trivial | refine And.intro rfl ?_)), by (repeat (first | exact trivial | refine And.intro rfl ?_)), rfl⟩) ?_
 intro ⟨k, out1⟩ ⟨k1, ho1, hT⟩
 dsimp only at k1 ho1 hT
 have hol : (out1.map encN).length = out1.length := List.length_map ..
 rcases Nat.lt_or_ge k (nms (rdS d) n).length with hkl | hkl
 ·obtain ⟨s, hs⟩ := lt_get hkl
  have hx : (vS (nms (rdS d) n))[k]? = some [.st s] := by unfold vS; rw [List.getElem?_map, hs]; rfl
  have hsn := name_len (nms_name (rdS d) n s (List.mem_of_getElem? hs))
  have hwn2 : ∀ t ∈ way ++ [s], t.length ≤ 8 := fun t ht => by
   rcases List.mem_append.1 ht with ht | ht
   ·exact hwn t ht
   ·rw [List.mem_singleton.1 ht]; exact hsn
  have hw2 : (way ++ [s]).length = 1 := by rw [List.length_append, hw]; rfl
  have hf := find_ok d hd n s
  rw [fndV_eq] at hf
  have he := entry_ok d hd (kOf (rdS d) n s)
  have hi := inode_ok d hd (mOf (rdS d) n s)
  have hj := join_way (way ++ [s]) hwn2 (by omega) (by simp)
  have hda := data_ok d hd (inoAt (rdS d) (mOf (rdS d) n s)) (inoAt_RI _ _)
  rw [drop_at14 hs, subL_cons] at hT
  have hwo : vS way ++ [[.st s]] = vS (way ++ [s]) := by unfold vS; rw [List.map_append]; rfl
  have htk : (List.take (((vS way).length : Nat) : Int).toNat (vS way)).length ≤ 4 := by rw [List.length_take]; omega
  have hvl : (vS (way ++ [s])).length = 1 := by unfold vS; rw [List.length_map]; exact hw2
  have hwo2 : (vS way).take (((vS way).length : Nat) : Int).toNat ++ [[.st s]] = vS (way ++ [s]) := by rw [List.take_of_length_le (by omega)]; exact hwo
  have hmap : (out1.map encN ++ [encN (nodV (rdS d) way n s)]) = (out1 ++ [(nodV (rdS d) way n s)]).map encN := by rw [List.map_append]; rfl
  have hE : out1.length = 64 → G .ret ⟨[], E0 Tryz.f31 Tryz.f111 rgD d n (.fs 1 (vS way))  (tm1 (out1.map encN)), 10⟩ := fun h => by
   have := hB (by rw [← hT, List.length_append, List.length_cons]; omega)
   rw [← hT, List.take_left' h] at this
   exact this
  have hT2 : (inoAt (rdS d) (mOf (rdS d) n s)).k = 2 → ((out1 ++ [(nodV (rdS d) way n s)]) ++ subV (rdS d) 3 (mOf (rdS d) n s) (way ++ [s])) ++ subL (rdS d) 3 n way ((nms (rdS d) n).drop (k + 1)) = out ++ subV (rdS d) 4 n way := fun h => by
   rw [← hT, if_pos h]; simp only [List.append_assoc, List.cons_append, List.nil_append]
  have hT3 : ¬ (inoAt (rdS d) (mOf (rdS d) n s)).k = 2 → (out1 ++ [(nodV (rdS d) way n s)]) ++ subL (rdS d) 3 n way ((nms (rdS d) n).drop (k + 1)) = out ++ subV (rdS d) 4 n way := fun h => by
   rw [← hT, if_neg h]; simp only [List.append_assoc, List.cons_append, List.nil_append]
  have hE2 : (inoAt (rdS d) (mOf (rdS d) n s)).k = 2 → ¬ ((out1 ++ [(nodV (rdS d) way n s)]) ++ subV (rdS d) 3 (mOf (rdS d) n s) (way ++ [s])).length ≤ 64 → G .ret ⟨[], E0 Tryz.f31 Tryz.f111 rgD d n (.fs 1 (vS way))  (tm1 ((((out1 ++ [(nodV (rdS d) way n s)]) ++ subV (rdS d) 3 (mOf (rdS d) n s) (way ++ [s])).take 64).map encN)), 10⟩ := fun h h2 => by
   have := hB (by rw [← hT2 h, List.length_append]; omega)
   rw [← hT2 h, List.take_append_of_le_length (by omega)] at this
   exact this
  have hmu : (nms (rdS d) n).length - (k + 1) < (nms (rdS d) n).length - k := by omega
  clear hT hB
  (repeat' ((conv=>whnf);first|with_reducible refine gA ?_|((with_reducible refine callE_id ?_); first | refine CallE.con ⟨_, hf, ?_⟩ | refine CallE.con ⟨_, he, ?_⟩ | refine CallE.con ⟨_, hi, ?_⟩ | refine CallE.con ⟨_, hj, ?_⟩ | refine CallE.con ⟨_, hda, ?_⟩ | refine CallE.inl ?_) | refine CallP.mk ⟨_, hj, ?_⟩ | refine CallP.mk ⟨_, hda, ?_⟩|(with_reducible first|refine gB0 ?_|refine gZ (fun x hx hu=>?_)|refine gY (fun x hx=>?_)|refine gE ?_|refine Both.mk ?_ ?_|refine gS (fun h=>?_) (fun h=>?_)|refine Spl.nt ?_|refine Spl.mk (fun h=>?_) (fun h=>?_))))
  refine DrawS.wk (τ := ⟨(9, .d (.it .i64 (mOf (rdS d) n s))) :: (10, .ptr 11 0) :: (11, .d (.fs 1 (vS (way ++ [s])))) :: slI 4 5 6 10 (nms (rdS d) n) k, (12, .tag 11 96) :: (11, .cells 6 ((encI (inoAt (rdS d) (mOf (rdS d) n s))).map .d)) :: (10, .cells 1 [.yld 9]) :: E0 Tryz.f31 Tryz.f111 rgL d n (.fs 1 (vS way))  (tm0 (out1.map encN)), 13⟩) ?_ ?_
  ·exact Wk.vwL (by (repeat (first | exact trivial | refine And.intro (Vw.eq rfl) ?_ | refine And.intro (Vw.ts' hwo2) ?_))) (by (repeat (first | exact trivial | refine And.intro (VwO.same _) ?_))) rfl
  (repeat' ((conv=>whnf);first|with_reducible refine gA ?_|((with_reducible refine callE_id ?_); first | refine CallE.con ⟨_, hf, ?_⟩ | refine CallE.con ⟨_, he, ?_⟩ | refine CallE.con ⟨_, hi, ?_⟩ | refine CallE.con ⟨_, hj, ?_⟩ | refine CallE.con ⟨_, hda, ?_⟩ | refine CallE.inl ?_) | refine CallP.mk ⟨_, hj, ?_⟩ | refine CallP.mk ⟨_, hda, ?_⟩|(with_reducible first|refine gB ?_|refine gZ (fun x hx hu=>?_)|refine gY (fun x hx=>?_)|refine gE ?_|refine Both.mk ?_ ?_|refine gS (fun h=>?_) (fun h=>?_)|refine Spl.nt ?_|refine Spl.mk (fun h=>?_) (fun h=>?_))))
  refine YieldI.post ?_
  refine YieldI.intro ti_ok (by with_unfolding_all exact rfl) (by with_unfolding_all exact rfl) (by with_unfolding_all exact rfl) ?_
  (repeat' ((conv=>whnf);first|with_reducible refine gA ?_|with_reducible refine YieldI.intro ti_ok (by with_unfolding_all exact rfl) (by with_unfolding_all exact rfl) (by with_unfolding_all exact rfl) ?_|(with_reducible first|refine gB ?_|refine gZ (fun x hx hu=>?_)|refine gY (fun x hx=>?_)|refine gE ?_|refine Both.mk ?_ ?_|refine gS (fun h=>?_) (fun h=>?_)|refine Spl.nt ?_|refine Spl.mk (fun h=>?_) (fun h=>?_))))
  ·refine ⟨⟨[(57, .d (.bl false))], E0 Tryz.f31 Tryz.f111 rgD d n (.fs 1 (vS way))  (tm1 (out1.map encN)), 11⟩, Wk.enF (by (repeat (first | exact trivial | refine And.intro rfl ?_))) (by (repeat (first | exact trivial | refine And.intro (obw_eq rfl (by with_unfolding_all exact rfl)) ?_ | refine And.intro (obw_fr (by with_unfolding_all exact rfl) (by (repeat (first | exact trivial | refine And.intro (by with_unfolding_all exact rfl) ?_)))) ?_))) rfl, ?_⟩
   (repeat' ((conv=>whnf);first|with_reducible refine gA ?_|(with_reducible first|refine gB ?_|refine gZ (fun x hx hu=>?_)|refine gY (fun x hx=>?_)|refine gE ?_|refine Both.mk ?_ ?_|refine gS (fun h=>?_) (fun h=>?_)|refine Spl.nt ?_|refine Spl.mk (fun h=>?_) (fun h=>?_))))
   exact ⟨⟨[], E0 Tryz.f31 Tryz.f111 rgD d n (.fs 1 (vS way))  (tm1 (out1.map encN)), 10⟩, Wk.enF trivial (by (repeat (first | exact trivial | refine And.intro (obw_eq rfl (by with_unfolding_all exact rfl)) ?_ | refine And.intro (obw_fr (by with_unfolding_all exact rfl) (by (repeat (first | exact trivial | refine And.intro (by with_unfolding_all exact rfl) ?_)))) ?_))) rfl, hE (by omega)⟩
  ·have hlo : (out1 ++ [(nodV (rdS d) way n s)]).length ≤ 64 := by rw [List.length_append, List.length_singleton]; omega
   refine ⟨⟨(57, .d (.bl true)) :: (9, .d (.it .i64 (mOf (rdS d) n s))) :: (10, .ptr 11 0) :: (11, .d (.fs 1 (vS (way ++ [s])))) :: slI 4 5 6 10 (nms (rdS d) n) k, (12, .tag 11 96) :: (11, .cells 6 ((encI (inoAt (rdS d) (mOf (rdS d) n s))).map .d)) :: (10, .cells 1 [.yld 9]) :: E0 Tryz.f31 Tryz.f111 rgL d n (.fs 1 (vS way))  (tm0 (out1.map encN ++ [encN (nodV (rdS d) way n s)])), 13⟩, Wk.enF (by (repeat (first | exact trivial | refine And.intro rfl ?_))) (by (repeat (first | exact trivial | refine And.intro (obw_eq rfl (by with_unfolding_all exact rfl)) ?_ | refine And.intro (obw_fr (by with_unfolding_all exact rfl) (by (repeat (first | exact trivial | refine And.intro (by with_unfolding_all exact rfl) ?_)))) ?_))) rfl, ?_⟩
   by_cases hk2 : (inoAt (rdS d) (mOf (rdS d) n s)).k = 2
   ·(repeat' ((conv=>whnf);first|with_reducible refine gA ?_|((with_reducible refine callE_id ?_); refine CallE.inl ?_) | with_reducible refine CallI.inl ti_ok i73 rfl ?_|(with_reducible first|refine gB ?_|refine gZ (fun x hx hu=>?_)|refine gY (fun x hx=>?_)|refine gE ?_|refine Both.mk ?_ ?_|refine gS (fun h=>?_) (fun h=>?_)|refine Spl.nt ?_|refine Spl.mk (fun h=>?_) (fun h=>?_))))
    conv => whnf
    refine RangeS.wk (τ := ⟨slI 4 5 6 10 (nms (rdS d) n) k ++ [(65, clo 14 15 16)], c3 d (mOf (rdS d) n s) (.fs 1 (vS (way ++ [s]))) 14 15 16 ++ (10, .cells 1 [.yld 9]) :: E0 Tryz.f31 Tryz.f111 rgL d n (.fs 1 (vS way))  (tm0 (out1.map encN ++ [encN (nodV (rdS d) way n s)])), 17⟩) (Wk.enF (by (repeat (first | exact trivial | refine And.intro rfl ?_))) (by (repeat (first | exact trivial | refine And.intro (obw_eq rfl (by with_unfolding_all exact rfl)) ?_ | refine And.intro (obw_fr (by with_unfolding_all exact rfl) (by (repeat (first | exact trivial | refine And.intro (by with_unfolding_all exact rfl) ?_)))) ?_))) rfl) ?_
    refine RangeS.introW ti_ok i111 rfl rfl (lvl1 d hd  ⟨nms (rdS d) n, k, n, .fs 1 (vS way)⟩ (mOf (rdS d) n s) (way ++ [s]) hw2 hwn2 (out1 ++ [(nodV (rdS d) way n s)]) hlo (out1.map encN ++ [encN (nodV (rdS d) way n s)]) hmap _ ?_ ?_ ?_)
    ·intro h2
     (repeat' ((conv=>whnf);first|with_reducible refine gA ?_|(with_reducible first|refine gB ?_|refine gZ (fun x hx hu=>?_)|refine gY (fun x hx=>?_)|refine gE ?_|refine Both.mk ?_ ?_|refine gS (fun h=>?_) (fun h=>?_)|refine Spl.nt ?_|refine Spl.mk (fun h=>?_) (fun h=>?_))))
     exact ⟨(k + 1, (out1 ++ [(nodV (rdS d) way n s)]) ++ subV (rdS d) 3 (mOf (rdS d) n s) (way ++ [s])), ⟨hkl, h2, hT2 hk2⟩, by dsimp only; omega, Wk.enF (And.intro rfl (And.intro rfl (And.intro rfl (And.intro rfl (And.intro rfl (And.intro rfl (And.intro (it_eq (by first | omega | (dsimp only; omega))) trivial))))))) (by (repeat (first | exact trivial | refine And.intro (obw_eq rfl (by with_unfolding_all exact rfl)) ?_ | refine And.intro (obw_fr (by with_unfolding_all exact rfl) (by (repeat (first | exact trivial | refine And.intro (by with_unfolding_all exact rfl) ?_)))) ?_))) rfl⟩
    ·intro h2
     (repeat' ((conv=>whnf);first|with_reducible refine gA ?_|(with_reducible first|refine gB ?_|refine gZ (fun x hx hu=>?_)|refine gY (fun x hx=>?_)|refine gE ?_|refine Both.mk ?_ ?_|refine gS (fun h=>?_) (fun h=>?_)|refine Spl.nt ?_|refine Spl.mk (fun h=>?_) (fun h=>?_))))
     exact ⟨(k + 1, (out1 ++ [(nodV (rdS d) way n s)]) ++ subV (rdS d) 3 (mOf (rdS d) n s) (way ++ [s])), ⟨hkl, h2, hT2 hk2⟩, by dsimp only; omega, Wk.enF (And.intro rfl (And.intro rfl (And.intro rfl (And.intro rfl (And.intro rfl (And.intro rfl (And.intro (it_eq (by first | omega | (dsimp only; omega))) trivial))))))) (by (repeat (first | exact trivial | refine And.intro (obw_eq rfl (by with_unfolding_all exact rfl)) ?_ | refine And.intro (obw_fr (by with_unfolding_all exact rfl) (by (repeat (first | exact trivial | refine And.intro (by with_unfolding_all exact rfl) ?_)))) ?_))) rfl⟩
    ·intro h2
     (repeat' ((conv=>whnf);first|with_reducible refine gA ?_|(with_reducible first|refine gB ?_|refine gZ (fun x hx hu=>?_)|refine gY (fun x hx=>?_)|refine gE ?_|refine Both.mk ?_ ?_|refine gS (fun h=>?_) (fun h=>?_)|refine Spl.nt ?_|refine Spl.mk (fun h=>?_) (fun h=>?_))))
     exact ⟨⟨[], E0 Tryz.f31 Tryz.f111 rgD d n (.fs 1 (vS way))  (tm1 ((((out1 ++ [(nodV (rdS d) way n s)]) ++ subV (rdS d) 3 (mOf (rdS d) n s) (way ++ [s])).take 64).map encN)), 10⟩, Wk.enF trivial (by (repeat (first | exact trivial | refine And.intro (obw_eq rfl (by with_unfolding_all exact rfl)) ?_ | refine And.intro (obw_fr (by with_unfolding_all exact rfl) (by (repeat (first | exact trivial | refine And.intro (by with_unfolding_all exact rfl) ?_)))) ?_))) rfl, hE2 hk2 h2⟩
   ·(repeat' ((conv=>whnf);first|with_reducible refine gA ?_|(with_reducible first|refine gB ?_|refine gZ (fun x hx hu=>?_)|refine gY (fun x hx=>?_)|refine gE ?_|refine Both.mk ?_ ?_|refine gS (fun h=>?_) (fun h=>?_)|refine Spl.nt ?_|refine Spl.mk (fun h=>?_) (fun h=>?_))))
    exact ⟨(k + 1, out1 ++ [(nodV (rdS d) way n s)]), ⟨hkl, hlo, hT3 hk2⟩, hmu, wk_tr (congrArg (fun O => (⟨slI 4 5 6 10 (nms (rdS d) n) (k + 1), (10, .cells 1 [.yld 9]) :: E0 Tryz.f31 Tryz.f111 rgL d n (.fs 1 (vS way))  (tm0 O), 11⟩ : S)) hmap) (Wk.enF (And.intro rfl (And.intro rfl (And.intro rfl (And.intro rfl (And.intro rfl (And.intro rfl (And.intro (it_eq (by first | omega | (dsimp only; omega))) trivial))))))) (by (repeat (first | exact trivial | refine And.intro (obw_eq rfl (by with_unfolding_all exact rfl)) ?_ | refine And.intro (obw_fr (by with_unfolding_all exact rfl) (by (repeat (first | exact trivial | refine And.intro (by with_unfolding_all exact rfl) ?_)))) ?_))) rfl)⟩
 ·have hN : G .normal ⟨[], E0 Tryz.f31 Tryz.f111 rgL d n (.fs 1 (vS way))  (tm0 (out1.map encN)), 10⟩ := by
   have e : out1 = out ++ subV (rdS d) 4 n way := by
    rw [← hT, List.drop_of_length_le hkl]; exact (List.append_nil _).symm
   have := hA2 (by rw [← e]; exact ho1)
   rw [← e] at this
   exact this
  (repeat' ((conv=>whnf);first|with_reducible refine gA ?_|(with_reducible first|refine gB ?_|refine gZ (fun x hx hu=>?_)|refine gY (fun x hx=>?_)|refine gE ?_|refine Both.mk ?_ ?_|refine gS (fun h=>?_) (fun h=>?_)|refine Spl.nt ?_|refine Spl.mk (fun h=>?_) (fun h=>?_))))
  exact ⟨⟨[], E0 Tryz.f31 Tryz.f111 rgL d n (.fs 1 (vS way))  (tm0 (out1.map encN)), 10⟩, Wk.enF trivial (by (repeat (first | exact trivial | refine And.intro (obw_eq rfl (by with_unfolding_all exact rfl)) ?_ | refine And.intro (obw_fr (by with_unfolding_all exact rfl) (by (repeat (first | exact trivial | refine And.intro (by with_unfolding_all exact rfl) ?_)))) ?_))) rfl, hN⟩
end Go.Proofs.YthknbpijaoljgaaGreatDoor
namespace Go.Proofs.YthknbpijaoljgaaGreatDoor
open Go.Sy
theorem Wk.nilD {N : Nat} {σ : S} (n a b : Nat) (hn : Go.Sy.look n σ.mem = some (.cells 1 [.d (.fs a [])])) : Wk N σ ⟨σ.sl, (n, .cells 1 [.d (.fs b [])]) :: σ.mem, σ.nx⟩ := by
 refine ⟨fun κ g w0 w hst => ⟨g, ?_⟩⟩
 have on : ∀ k, On g ((n, .cells 1 [.d (.fs b [])]) :: σ.mem) k → On g σ.mem k := fun k h => by
  unfold On at h ⊢
  rw [look_cons] at h
  by_cases hk : k = n
  ·subst hk; rw [hn]; trivial
  ·rw [if_neg hk] at h; exact h
 refine ⟨hst.size, hst.defers, hst.sl, ⟨hst.inv.frz, fun k ob hk => ?_, fun k m hkm h h' => hst.inv.inj k m hkm (on k h) (on m h'), hst.inv.size, hst.inv.pres, fun k h => hst.inv.own k (on k h), hst.inv.f0, hst.inv.fnew, hst.inv.os, hst.inv.tape, hst.inv.output, hst.inv.dfr⟩, ?_⟩
 ·rw [look_cons] at hk
  by_cases hkn : k = n
  ·subst hkn
   rw [if_pos rfl] at hk
   obtain rfl := Option.some.inj hk
   obtain ⟨arr, T, e1, e2, e3, e4, e5, e6⟩ := hst.inv.obs k _ hn
   refine ⟨arr, T, e1, e2, rfl, fun j hj => ?_, fun j hj => ?_, e6⟩
   ·obtain rfl : j = 0 := by simp at hj; omega
    rfl
   ·obtain rfl : j = 0 := by simp at hj; omega
    have h := e5 0 (by simp)
    simp only [List.getElem_cons_zero] at h ⊢
    generalize arr.getD 0 undef = q at h
    cases h with | d _ _ hd => ?_
    cases hd with
    | fs0 => exact .d _ _ (.fs0 _ _ _)
    | fs _ _ _ _ _ _ _ hl =>
     obtain rfl : 0 = _ := hl
     exact .d _ _ (.fs0 _ _ _)
  ·rw [if_neg hkn] at hk; exact hst.inv.obs k ob hk
 ·have := S.ok_iff.1 hst.ok
  refine S.ok_iff.2 ⟨this.1, fun p hp => ?_⟩
  rcases List.mem_cons.1 hp with rfl | hp
  ·exact ⟨(S.ok_mem hst.ok hn).1, rfl⟩
  ·exact this.2 p hp
theorem FnC.res {P : Program} {f : Nat} {args : List AV} {r r' : AV} (h : FnC P f args r) (hp : r'.isP = true) (hc : ∀ g v, AVR g r v → AVR g r' v) : FnC P f args r' := ⟨hp, fun g w vs a b c d => by
 rcases h.run g w vs a b c d with ⟨h1, h2⟩ | ⟨v, w', h1, v', g', h2, h3, h4⟩
 ·exact .inl ⟨h1, h2.mono fun e w' ⟨v, g', q1, q2, q3⟩ => ⟨v, g', q1, hc _ _ q2, q3⟩⟩
 ·exact .inr ⟨v, w', h1, v', g', h2, hc _ _ h3, h4⟩⟩
theorem nil_sz {g : Gh} {a b : Nat} {x : D} {v : Value} (h : AVR g (.tup [.d (.fs a []), .d x]) v) : AVR g (.tup [.d (.fs b []), .d x]) v := by
 cases h with | tup _ vs h1 h2 => ?_
 refine .tup _ _ h1 fun j hj => ?_
 have := h2 j hj
 match j, hj with
 | 0, hj =>
  simp only [List.getElem_cons_zero] at this ⊢
  generalize vs.getD 0 undef = q at this
  cases this with | d _ _ hd => ?_
  cases hd with
  | fs0 => exact .d _ _ (.fs0 _ _ _)
  | fs _ _ _ _ _ _ _ hl =>
   obtain rfl : 0 = _ := hl
   exact .d _ _ (.fs0 _ _ _)
 | 1, hj => exact this
theorem topT {L : List Nod} (h : L.length ≤ 64) : AV.tup [.d (.fs 3 (L.map encN)), .d (.bl true)] = AV.tup [.d (.fs 3 ((L.take 64).map encN)), .d (.bl (decide (L.length ≤ 64)))] := by rw [List.take_of_length_le h, decide_eq_true h]
theorem topF {L : List Nod} (h : ¬ L.length ≤ 64) : AV.tup [.d (.fs 3 ((L.take 64).map encN)), .d (.bl false)] = AV.tup [.d (.fs 3 ((L.take 64).map encN)), .d (.bl (decide (L.length ≤ 64)))] := by rw [decide_eq_false h]
set_option maxHeartbeats 8000000 in
theorem tree_ok (d : Option Dk) (hd : DkOK d) : FnC Tryz.prog 31 [.d (encD d)] (tupN (treeV (rdS d))) := by
 have hi := inode_ok d hd 0
 unfold treeV
 by_cases hk : (inoAt (rdS d) 0).k = 2
 ·rw [if_pos hk]
  unfold topV tupN
  refine FnC.intro ti_ok Tryz.func31 rfl Tryz.ntmps31 Tryz.call31 rfl (Nat.le_of_ble_eq_true rfl) rfl ?_
  (repeat' ((conv=>whnf);first|with_reducible refine gA ?_|((with_reducible refine callE_id ?_); first | refine CallE.con ⟨_, hi, ?_⟩ | refine CallE.inl ?_) | with_reducible refine CallI.inl ti_ok i73 rfl ?_|(with_reducible first|refine gB ?_|refine gZ (fun x hx hu=>?_)|refine gY (fun x hx=>?_)|refine gE ?_|refine Both.mk ?_ ?_|refine gS (fun h=>?_) (fun h=>?_)|refine Spl.nt ?_|refine Spl.mk (fun h=>?_) (fun h=>?_))))
  conv => whnf
  refine RangeS.wk (Wk.trans (Wk.trans (Wk.nlTs 2 0 1 3 115 (by with_unfolding_all exact rfl) (by with_unfolding_all exact rfl)) (Wk.nilD 6 0 1 (by with_unfolding_all exact rfl))) (Wk.enF (τ := ⟨[(2, .ptr 0 0), (3, .ptr 1 0), (4, .ptr 2 0), (11, clo 4 5 6)], c3 d 0 (.fs 1 (vS [])) 4 5 6 ++ tm0 [], 8⟩) (by (repeat (first | exact trivial | refine And.intro rfl ?_))) (by (repeat (first | exact trivial | refine And.intro (obw_eq rfl (by with_unfolding_all exact rfl)) ?_ | refine And.intro (obw_fr (by with_unfolding_all exact rfl) (by (repeat (first | exact trivial | refine And.intro (by with_unfolding_all exact rfl) ?_)))) ?_))) rfl)) ?_
  refine RangeS.introW ti_ok i111 rfl rfl (lvl0 d hd 0 [] rfl (fun s hs => by cases hs) [] (Nat.zero_le _) [] rfl _ ?_ ?_ ?_)
  ·intro h2
   (repeat' ((conv=>whnf);first|with_reducible refine gA ?_|(with_reducible first|refine gB ?_|refine gZ (fun x hx hu=>?_)|refine gY (fun x hx=>?_)|refine gE ?_|refine Both.mk ?_ ?_|refine gS (fun h=>?_) (fun h=>?_)|refine Spl.nt ?_|refine Spl.mk (fun h=>?_) (fun h=>?_))))
   exact topT h2
  ·intro h2
   (repeat' ((conv=>whnf);first|with_reducible refine gA ?_|(with_reducible first|refine gB ?_|refine gZ (fun x hx hu=>?_)|refine gY (fun x hx=>?_)|refine gE ?_|refine Both.mk ?_ ?_|refine gS (fun h=>?_) (fun h=>?_)|refine Spl.nt ?_|refine Spl.mk (fun h=>?_) (fun h=>?_))))
   exact topT h2
  ·intro h2
   (repeat' ((conv=>whnf);first|with_reducible refine gA ?_|(with_reducible first|refine gB ?_|refine gZ (fun x hx hu=>?_)|refine gY (fun x hx=>?_)|refine gE ?_|refine Both.mk ?_ ?_|refine gS (fun h=>?_) (fun h=>?_)|refine Spl.nt ?_|refine Spl.mk (fun h=>?_) (fun h=>?_))))
   exact topF h2
 ·rw [if_neg hk]
  refine FnC.res (r := .tup [.d (.fs 0 []), .d (.bl true)]) ?_ rfl fun g v => nil_sz
  refine FnC.intro ti_ok Tryz.func31 rfl Tryz.ntmps31 Tryz.call31 rfl (Nat.le_of_ble_eq_true rfl) rfl ?_
  (repeat' ((conv=>whnf);first|with_reducible refine gA ?_|((with_reducible refine callE_id ?_); refine CallE.con ⟨_, hi, ?_⟩)|(with_reducible first|refine gB ?_|refine gZ (fun x hx hu=>?_)|refine gY (fun x hx=>?_)|refine gE ?_|refine Both.mk ?_ ?_|refine gS (fun h=>?_) (fun h=>?_)|refine Spl.nt ?_|refine Spl.mk (fun h=>?_) (fun h=>?_))))
  exact rfl
end Go.Proofs.YthknbpijaoljgaaGreatDoor
namespace Go.Proofs.YthknbpijaoljgaaGreatDoor
open Go.Sy
end Go.Proofs.YthknbpijaoljgaaGreatDoor
