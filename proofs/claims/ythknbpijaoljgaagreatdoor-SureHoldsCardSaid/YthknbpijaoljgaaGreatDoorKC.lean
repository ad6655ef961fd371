/- Contracts of the functions that the law reaches, and the law. Conditions: none. -/
import Derived.Test.YthknbpijaoljgaaGreatDoorKB
import Derived.Test.YthknbpijaoljgaaGreatDoorSD
import Derived.Test.YthknbpijaoljgaaGreatDoorSC
set_option maxRecDepth 100000
set_option linter.all false
namespace Go.Proofs.YthknbpijaoljgaaGreatDoor
open Go.Sy
theorem inoAt_eq {f g : Int → List UInt8} (h : ∀ n : Int, 0 ≤ n → f n = g n) (n : Int) : inoAt f n = inoAt g n := by
 unfold inoAt
 split
 ·rw [h _ (by omega)]
 ·rfl
theorem entAt_eq {f g : Int → List UInt8} (h : ∀ n : Int, 0 ≤ n → f n = g n) (n : Int) : entAt f n = entAt g n := by
 unfold entAt
 split
 ·rw [h _ (by omega)]
 ·rfl
end Go.Proofs.YthknbpijaoljgaaGreatDoor
namespace Go.Proofs.YthknbpijaoljgaaGreatDoor
open Go.Sy
def folderS : List UInt8 := [2, 0, 0, 0, 0, 0, 0, 0, 0, 0, 0, 0, 0, 0, 0, 0, 0, 0, 0, 0, 0, 0, 0, 0, 0, 0, 0, 0, 0, 0, 0, 0]
def emptyM : List (List UInt8) := superS :: folderS :: List.replicate 63 zeroS
def k1S : List UInt8 := [1, 0, 2, 1, 0, 0, 0, 0, 0, 0, 0, 0, 0, 0, 0, 0, 97, 0, 0, 0, 0, 0, 0, 0, 0, 0, 0, 0, 0, 0, 0, 0]
def k2S : List UInt8 := [1, 0, 0, 0, 0, 0, 0, 0, 0, 0, 0, 0, 0, 0, 0, 0, 0, 0, 0, 0, 0, 0, 0, 0, 0, 0, 0, 0, 0, 0, 0, 0]
def kW : List Wr := [⟨17, k1S, 0, 0, 0⟩, ⟨3, k2S, 0, 0, 0⟩]
def kD : Option Dk := dskOf emptyM kW
theorem f1 : lookP (rdS kD) [47, 97] = (2, 0) := by decide +kernel
theorem f2 : fndK (rdS kD) 0 [97] = some 0 := by decide +kernel
theorem f3 : lookP (rdS kD) [47, 98] = (0, 4) := by decide +kernel
theorem f4 : mntP (imgD kD) := by decide +kernel
theorem f5 : nmsK (rdS kD) 0 24 = [[97]] := by decide +kernel
theorem f6 : takP (rdS kD) 2 := by decide +kernel
end Go.Proofs.YthknbpijaoljgaaGreatDoor
namespace Go.Proofs.YthknbpijaoljgaaGreatDoor
open Go.Sy
end Go.Proofs.YthknbpijaoljgaaGreatDoor
namespace Go.Proofs.YthknbpijaoljgaaGreatDoor
open Go.Sy
theorem eqNn (x y : Nod) : eqDs (encN x) (encN y) = decide (x = y) := by
 obtain ⟨p, d, t⟩ := x
 obtain ⟨p', d', t'⟩ := y
 rw [Bool.eq_iff_iff]
 simp [eqDs, eqD, encN]
theorem take_endN {α : Type} {a b : List α} {k : Nat} (h : a.take k = b.take k) (ha : a.length ≤ k) (hb : b.length ≤ k) : a = b := by
 rwa [List.take_of_length_le ha, List.take_of_length_le hb] at h
theorem sameN_ok (a b : List Nod) (ha : a.length ≤ 100000) : FnC Tryz.prog 27 [.d (.fs 3 (a.map encN)), .d (.fs 3 (b.map encN))] (.d (.bl (decide (a = b)))) := by
 refine FnC.intro ti_ok Tryz.func27 rfl Tryz.ntmps27 Tryz.call27 rfl (Nat.le_of_ble_eq_true rfl) rfl ?_
 have hla : (a.map encN).length = a.length := List.length_map ..
 have hlb : (b.map encN).length = b.length := List.length_map ..
 by_cases he : a.length = b.length
 ·(repeat' ((conv=>whnf);first|with_reducible refine gA ?_|(with_reducible first|refine gB ?_|refine gZ (fun x hx hu=>?_)|refine gY (fun x hx=>?_)|refine gE ?_|refine Both.mk ?_ ?_|refine gS (fun h=>?_) (fun h=>?_)|refine Spl.nt ?_|refine Spl.mk (fun h=>?_) (fun h=>?_))))
  refine loop_rule ti_ok (fun k : Nat => k ≤ a.length ∧ a.take k = b.take k) (fun k => ⟨[(0, .d (.fs 3 (a.map encN))), (1, .d (.fs 3 (b.map encN))), (5, .d (.it .i64 k))], [], 0⟩) (fun k => a.length - k) 0 ⟨Nat.zero_le _, rfl⟩ ⟨⟨rfl, rfl, rfl, trivial⟩, trivial, rfl⟩ ?_
  intro k ⟨k1, k2⟩
  rcases Nat.lt_or_ge k a.length with hkl | hkl
  ·obtain ⟨x, hx⟩ := lt_get hkl
   obtain ⟨y, hy⟩ := lt_get (l := b) (k := k) (by omega)
   (repeat' ((conv=>whnf);first|with_reducible refine gA ?_|(with_reducible first|refine gB ?_|refine gZ (fun x hx hu=>?_)|refine gY (fun x hx=>?_)|refine gE ?_|refine Both.mk ?_ ?_|refine gS (fun h=>?_) (fun h=>?_)|refine Spl.nt ?_|refine Spl.mk (fun h=>?_) (fun h=>?_))))
   ·have h' : eqDs (encN x) (encN y) = true := h
    rw [eqNn, decide_eq_true_eq] at h'
    refine again (k + 1) ⟨by omega, ?_⟩ (by dsimp only; omega) (And.intro rfl (And.intro rfl (And.intro rfl trivial))) trivial rfl
    rw [take_snoc hx, take_snoc hy, k2, h']
   ·have h' : eqDs (encN x) (encN y) = false := h
    rw [eqNn, decide_eq_false_iff_not] at h'
    refine bl_eq (decide_eq_false fun hab => h' ?_).symm
    rw [hab, hy] at hx
    exact (Option.some.inj hx).symm
  ·(repeat' ((conv=>whnf);first|with_reducible refine gA ?_|(with_reducible first|refine gB ?_|refine gZ (fun x hx hu=>?_)|refine gY (fun x hx=>?_)|refine gE ?_|refine Both.mk ?_ ?_|refine gS (fun h=>?_) (fun h=>?_)|refine Spl.nt ?_|refine Spl.mk (fun h=>?_) (fun h=>?_))))
   exact bl_eq (decide_eq_true (take_endN k2 hkl (by omega))).symm
 ·(repeat' ((conv=>whnf);first|with_reducible refine gA ?_|(with_reducible first|refine gB ?_|refine gZ (fun x hx hu=>?_)|refine gY (fun x hx=>?_)|refine gE ?_|refine Both.mk ?_ ?_|refine gS (fun h=>?_) (fun h=>?_)|refine Spl.nt ?_|refine Spl.mk (fun h=>?_) (fun h=>?_))))
  exact bl_eq (decide_eq_false fun hab => he (by rw [hab])).symm
def k3S : List UInt8 := [2, 0, 0, 0, 0, 0, 0, 0, 0, 0, 0, 0, 0, 0, 0, 0, 0, 0, 0, 0, 0, 0, 0, 0, 0, 0, 0, 0, 0, 0, 0, 0]
def kV : List Wr := [⟨17, k1S, 0, 0, 0⟩, ⟨3, k3S, 0, 0, 0⟩]
def kDV : Option Dk := dskOf emptyM kV
theorem v1 : nmsK (rdS kDV) 0 24 = [[97]] := by decide +kernel
theorem v2 : nmsK (rdS kDV) 2 24 = [] := by decide +kernel
theorem v3 : mOf (rdS kDV) 0 [97] = 2 := by decide +kernel
theorem v4 : (inoAt (rdS kDV) 2).k = 2 := by decide +kernel
theorem v5 : dataV (rdS kDV) (inoAt (rdS kDV) 2) = [] := by decide +kernel
theorem v6 : (inoAt (rdS kDV) 0).k = 2 := by decide +kernel
theorem v7 : nms (rdS kDV) 0 = [[97]] := by
 unfold nms sortS
 rw [v1, List.mergeSort_singleton]; rfl
theorem v8 : nms (rdS kDV) 2 = [] := by
 unfold nms sortS
 rw [v2, List.mergeSort_nil]; rfl
theorem v9 : treeV (rdS kDV) = ([⟨[47, 97], true, []⟩], true) := by
 have e : subV (rdS kDV) 4 0 [] = [⟨[47, 97], true, []⟩] := by
  rw [subV, v7]
  show nodV (rdS kDV) [] 0 [97] :: ((if (inoAt (rdS kDV) (mOf (rdS kDV) 0 [97])).k = 2 then subV (rdS kDV) 3 (mOf (rdS kDV) 0 [97]) ([] ++ [[97]]) else []) ++ []) = _
  rw [v3, if_pos v4, subV, v8]
  show [nodV (rdS kDV) [] 0 [97]] = _
  unfold nodV
  rw [v3, v4, v5]; rfl
 unfold treeV topV
 rw [if_pos v6, e]; rfl
end Go.Proofs.YthknbpijaoljgaaGreatDoor
namespace Go.Proofs.YthknbpijaoljgaaGreatDoor
open Go.Sy
end Go.Proofs.YthknbpijaoljgaaGreatDoor
namespace Go.Proofs.YthknbpijaoljgaaGreatDoor
open Go.Sy
section
variable {f g : Int → List UInt8} (h : ∀ n : Int, 0 ≤ n → f n = g n)
include h
theorem ino_fe : inoAt f = inoAt g := funext (inoAt_eq h)
theorem ent_fe : entAt f = entAt g := funext (entAt_eq h)
theorem nms_fe (p : Int) : nms f p = nms g p := by
 unfold nms nmsK
 rw [ent_fe h]
 congr 2
 congr 1
 refine List.filter_congr fun j _ => decide_eq_decide.2 ?_
 unfold stdP
 rw [ent_fe h, ino_fe h]
theorem fnd_fe (p : Int) (s : List UInt8) : fndK f p s = fndK g p s := by
 unfold fndK
 congr 1
 funext k
 refine decide_eq_decide.2 ?_
 unfold fndP stdP
 rw [ent_fe h, ino_fe h]
theorem mOf_fe (p : Int) (s : List UInt8) : mOf f p s = mOf g p s := by
 unfold mOf kOf
 rw [fnd_fe h, ent_fe h]
theorem data_fe {x : Ino} (hx : RI x) : dataV f x = dataV g x := by
 have hb : 0 ≤ x.b0 ∧ 0 ≤ x.b1 ∧ 0 ≤ x.b2 ∧ 0 ≤ x.b3 := by
  rcases hx with h | h
  ·omega
  ·refine ⟨?_, ?_, ?_, ?_⟩ <;> omega
 unfold dataV
 rw [h _ (by omega), h _ (by omega), h _ (by omega), h _ (by omega)]
theorem nod_fe (way : List (List UInt8)) (n : Int) (s : List UInt8) : nodV f way n s = nodV g way n s := by
 unfold nodV
 rw [mOf_fe h, ino_fe h, data_fe h (inoAt_RI g _)]
theorem sub_fe : ∀ (j : Nat) (n : Int) (way : List (List UInt8)), subV f j n way = subV g j n way
 | 0, _, _ => rfl
 | j + 1, n, way => by
  unfold subV
  rw [nms_fe h]
  congr 1
  funext s
  rw [nod_fe h, mOf_fe h, ino_fe h, sub_fe j]
theorem tree_fe : treeV f = treeV g := by
 unfold treeV
 rw [ino_fe h, sub_fe h]
end
theorem treeV_len (f : Int → List UInt8) : (treeV f).1.length ≤ 64 := by
 unfold treeV topV
 split
 ·exact List.length_take_le ..
 ·exact Nat.zero_le _
end Go.Proofs.YthknbpijaoljgaaGreatDoor
namespace Go.Proofs.YthknbpijaoljgaaGreatDoor
open Go.Sy
def imgI (m : List (List UInt8)) (ws : List Wr) (k : Nat) : Nat → List (List UInt8)
 | 0 => m
 | i + 1 => match ws[i]? with
  | some w => if dg k i = 1 then putW (imgI m ws k i) w else imgI m ws k i
  | none => imgI m ws k i
theorem imgI_succ {m : List (List UInt8)} {ws : List Wr} {k i : Nat} {w : Wr} (h : ws[i]? = some w) : imgI m ws k (i + 1) = if dg k i = 1 then putW (imgI m ws k i) w else imgI m ws k i := by
 show (match ws[i]? with | some w => _ | none => _) = _
 rw [h]
theorem imgI_len (m : List (List UInt8)) (ws : List Wr) (k : Nat) : ∀ i, (imgI m ws k i).length = m.length
 | 0 => rfl
 | i + 1 => by
  cases h : ws[i]? with
  | none => show (match ws[i]? with | some w => _ | none => _ : List (List UInt8)).length = _; rw [h]; exact imgI_len m ws k i
  | some w =>
   rw [imgI_succ h]
   split
   ·rw [putW_len, imgI_len m ws k i]
   ·exact imgI_len m ws k i
theorem imgI_ok {m : List (List UInt8)} (hm : ImOK m) {ws : List Wr} (hw : WsOK ws) (k : Nat) : ∀ i, ImOK (imgI m ws k i)
 | 0 => hm
 | i + 1 => by
  cases h : ws[i]? with
  | none => show ImOK (match ws[i]? with | some w => _ | none => _ : List (List UInt8)); rw [h]; exact imgI_ok hm hw k i
  | some w =>
   rw [imgI_succ h]
   split
   ·unfold putW
    split
    ·intro s hs
     rcases List.mem_or_eq_of_mem_set hs with h' | rfl
     ·exact imgI_ok hm hw k i s h'
     ·exact hw w (List.mem_of_getElem? h)
    ·exact imgI_ok hm hw k i
   ·exact imgI_ok hm hw k i
def RngP (m : List (List UInt8)) (ws : List Wr) : Prop := ∀ w ∈ ws, 0 ≤ w.a ∧ w.a < m.length
instance (m : List (List UInt8)) (ws : List Wr) : Decidable (RngP m ws) := by unfold RngP; infer_instance
def ciA (m : List (List UInt8)) (ws : List Wr) (c : Nat) (i : Nat) : S := ⟨[(0, .d (.fs 36 (ws.map encW))), (1, .fn (.func 63) [] [.ptr 0 0]), (7, .d (.it .i64 (ws.length : Nat))), (8, .d (.it .i64 (i : Nat)))],
 [(3, .frame 10 []), (2, .frame 60 [(1, .d (.it .u64 (c : Nat))), (2, .ptr 0 0), (15, .d (.bl false))]), (0, .cells 2 ((encSt m ws).map .d))], 4⟩
def ciB (m : List (List UInt8)) (ws : List Wr) (c k : Nat) (n : Nat) (i : Nat) : S := ⟨[(1, .d (.it .u64 (c : Nat))), (7, .vx 32 n 0 m.length), (25, .d (.fs 36 (ws.map encW))), (26, .d (.it .i64 (ws.length : Nat))), (27, .d (.it .i64 (i : Nat)))], [(n, .vec 34 32 ((imgI m ws k i).map encS) false)], n + 1⟩
set_option maxHeartbeats 8000000 in
theorem cimg_ok (m : List (List UInt8)) (hm : ImOK m) (hml : m.length ≤ 1000) (ws : List Wr) (hw : WsOK ws) (hwl : ws.length ≤ 8) (k : Nat) (hk : k < 256) (hA : AlwP (esW ws) k) (hR : RngP m ws) (h0 : m ≠ []) : FnC Tryz.prog 28 [.dg 2 (encSt m ws), .d (.it .u64 (nthR k ws.length : Nat))] (.tup [.d (encM (imgI m ws k ws.length)), .d (.bl true)]) := by
 have ha := calws_ok m ws hw hwl k hk
 rw [decide_eq_true hA] at ha
 have hwl' : (ws.map encW).length = ws.length := List.length_map ..
 have hml' : (m.map encS).length = m.length := List.length_map ..
 refine FnC.introW ti_ok Tryz.func28 rfl Tryz.ntmps28 Tryz.call28 rfl (Nat.le_of_ble_eq_true rfl) rfl ?_
 (repeat' ((conv=>whnf);first|with_reducible refine gA ?_|((with_reducible refine callE_id ?_); first | refine CallE.con ⟨_, ha, ?_⟩ | refine CallE.inl ?_) | ((with_reducible refine callI_id ?_); first | with_reducible refine CallI.inl ti_ok i65 rfl ?_ | with_reducible refine CallI.inl ti_ok i107 rfl ?_ | with_reducible refine CallI.inl ti_ok i63 rfl ?_)|(with_reducible first|refine gB ?_|refine gZ (fun x hx hu=>?_)|refine gY (fun x hx=>?_)|refine gE ?_|refine Both.mk ?_ ?_|refine gS (fun h=>?_) (fun h=>?_)|refine Spl.nt ?_|refine Spl.mk (fun h=>?_) (fun h=>?_))))
 conv => whnf
 generalize hc : nthR k ws.length = c at *
 refine loop_ruleW ti_ok (fun i : Nat => i ≤ ws.length) (ciA m ws c) (fun i => ws.length - i) 0 (Nat.zero_le _) (Wk.enF (And.intro rfl (And.intro rfl (And.intro (it_eq (by rw [hwl'])) (And.intro rfl trivial)))) (by (repeat (first | exact trivial | refine And.intro (obw_eq rfl (by with_unfolding_all exact rfl)) ?_ | refine And.intro (obw_fr (by with_unfolding_all exact rfl) (by (repeat (first | exact trivial | refine And.intro (by with_unfolding_all exact rfl) ?_)))) ?_))) rfl) ?_
 intro i hi
 rcases Nat.lt_or_ge i ws.length with hil | hil
 ·obtain ⟨x, hx⟩ := lt_get hil
  have hxs := hw x (List.mem_of_getElem? hx)
  have hxr := hR x (List.mem_of_getElem? hx)
  have hxr2 := hxr
  obtain ⟨xa, xs, xk, xi, xe⟩ := x
  dsimp only at hxr
  obtain ⟨g, rfl⟩ := is32 hxs
  unfold ciA encSt
  (repeat' ((conv=>whnf);first|with_reducible refine gA ?_|with_reducible refine at_hm hx ?_ | with_reducible refine AtA.mk' ?_ | ((with_reducible refine callE_id ?_); refine CallE.inl ?_) | ((with_reducible refine callI_id ?_); with_reducible refine CallI.inl ti_ok i63 rfl ?_)|(with_reducible first|refine gB ?_|refine gZ (fun x hx hu=>?_)|refine gY (fun x hx=>?_)|refine gE ?_|refine Both.mk ?_ ?_|refine gS (fun h=>?_) (fun h=>?_)|refine Spl.nt ?_|refine Spl.mk (fun h=>?_) (fun h=>?_))))
  all_goals first | (exfalso; omega) | (exfalso; dsimp only at *; omega) | skip
  refine ⟨i + 1, hil, by first | omega | (dsimp only; omega), Wk.enF (And.intro rfl (And.intro rfl (And.intro rfl (And.intro (it_eq (by omega)) trivial)))) (by (repeat (first | exact trivial | refine And.intro (obw_eq rfl (by with_unfolding_all exact rfl)) ?_ | refine And.intro (obw_fr (by with_unfolding_all exact rfl) (by (repeat (first | exact trivial | refine And.intro (by with_unfolding_all exact rfl) ?_)))) ?_))) rfl⟩
 ·have hie : i = ws.length := by omega
  subst hie
  have hne : (m.map encS).isEmpty = false := by cases m with | nil => exact absurd rfl h0 | cons => rfl
  have hf : ∀ i, i < ws.length → FnC Tryz.prog 67 [.d (.it .u64 (c : Nat)), .d (.it .i64 (i : Nat))] (.d (.it .i64 (dg k i : Nat))) := fun i hi => by
   have := fate_ok c i (hc ▸ nth_le hwl) (by omega)
   rwa [← hc, (nth_facts ws.length hwl k hk).2.2 i hi, hc] at this
  unfold ciA encSt
  (repeat' ((conv=>whnf);first|with_reducible refine gA ?_|((with_reducible refine nils_id ?_); first | refine NilS.vec (And.intro rfl ?_) | refine NilS.vec ?_) | with_reducible refine Spl.no hne ?_ | with_reducible refine AtA.mk' ?_ | ((with_reducible refine callE_id ?_); refine CallE.inl ?_) | ((with_reducible refine callI_id ?_); with_reducible refine CallI.inl ti_ok i66 rfl ?_)|(with_reducible first|refine gB ?_|refine gZ (fun x hx hu=>?_)|refine gY (fun x hx=>?_)|refine gE ?_|refine Both.mk ?_ ?_|refine gS (fun h=>?_) (fun h=>?_)|refine Spl.nt ?_|refine Spl.mk (fun h=>?_) (fun h=>?_))))
  conv => whnf
  refine loop_rule ti_ok (fun i : Nat => i ≤ ws.length) (ciB m ws c k 6) (fun i => ws.length - i) 0 (Nat.zero_le _) ⟨And.intro rfl (And.intro (vx_eq hml') (And.intro rfl (And.intro (it_eq (by rw [hwl'])) (And.intro rfl trivial)))), And.intro rfl trivial, rfl⟩ ?_
  intro i hi
  have hil := imgI_len m ws k i
  have hil' : ((imgI m ws k i).map encS).length = m.length := by rw [List.length_map, hil]
  rcases Nat.lt_or_ge i ws.length with hin | hin
  ·obtain ⟨x, hx⟩ := lt_get hin
   have hxs := hw x (List.mem_of_getElem? hx)
   have hxr := hR x (List.mem_of_getElem? hx)
   have hxr2 := hxr
   have hst := imgI_succ (m := m) (k := k) hx
   have hfi := hf i hin
   have hd2 := dg_lt k i
   obtain ⟨xa, xs, xk, xi, xe⟩ := x
   dsimp only at hxr
   obtain ⟨g, rfl⟩ := is32 hxs
   (repeat' ((conv=>whnf);first|with_reducible refine gA ?_|with_reducible refine at_hm hx ?_ | with_reducible refine AtA.mk' ?_ | ((with_reducible refine callE_id ?_); refine CallE.con ⟨_, hfi, ?_⟩) | with_reducible refine CallP.mk ⟨_, hfi, ?_⟩|(with_reducible first|refine gB ?_|refine gZ (fun x hx hu=>?_)|refine gY (fun x hx=>?_)|refine gE ?_|refine Both.mk ?_ ?_|refine gS (fun h=>?_) (fun h=>?_)|refine Spl.nt ?_|refine Spl.mk (fun h=>?_) (fun h=>?_))))
   all_goals first | (exfalso; omega) | (exfalso; dsimp only at *; omega) | skip
   all_goals (refine again (i + 1) hin (by first | omega | (dsimp only; omega)) (And.intro rfl (And.intro rfl (And.intro rfl (And.intro rfl (And.intro (it_eq (by omega)) trivial))))) (And.intro (vec_eq ?_) trivial) rfl)
   all_goals first
    | (rw [hst, if_neg (by omega)]; done)
    | (rw [hst, if_pos (by omega)]; unfold putW; rw [if_pos (by rw [hil]; dsimp only; omega)]; refine set_enc (s := sec32 g) (k := xa.toNat) (Nat.zero_add _) ?_; rw [hil]; dsimp only at *; omega)
  ·have hie : i = ws.length := by omega
   subst hie
   (repeat' ((conv=>whnf);first|with_reducible refine gA ?_|(with_reducible first|refine gB ?_|refine gZ (fun x hx hu=>?_)|refine gY (fun x hx=>?_)|refine gE ?_|refine Both.mk ?_ ?_|refine gS (fun h=>?_) (fun h=>?_)|refine Spl.nt ?_|refine Spl.mk (fun h=>?_) (fun h=>?_))))
   refine ⟨⟨[(4, .d (.fs 32 ((imgI m ws k ws.length).map encS))), (5, .d (.bl true))], [], 20⟩, Wk.frzL 6 34 32 ((imgI m ws k ws.length).map encS) false (by with_unfolding_all exact rfl) (And.intro (Fz.vx 0 m.length _ (by rw [hil']; omega) (by rw [List.drop_zero, List.take_of_length_le (by rw [hil']; exact Nat.le_refl _)])) (And.intro (Fz.same _) trivial)) trivial rfl, ?_⟩
   rfl
end Go.Proofs.YthknbpijaoljgaaGreatDoor
namespace Go.Proofs.YthknbpijaoljgaaGreatDoor
open Go.Sy
set_option maxHeartbeats 8000000 in
theorem cimg_no (m : List (List UInt8)) (ws : List Wr) (hw : WsOK ws) (hwl : ws.length ≤ 8) (k : Nat) (hk : k < 256) (hR : ¬ RngP m ws) : FnC Tryz.prog 28 [.dg 2 (encSt m ws), .d (.it .u64 (nthR k ws.length : Nat))] (.tup [.d (.fs 32 []), .d (.bl false)]) := by
 have ha := calws_ok m ws hw hwl k hk
 have hwl' : (ws.map encW).length = ws.length := List.length_map ..
 have hml' : (m.map encS).length = m.length := List.length_map ..
 by_cases hA : AlwP (esW ws) k
 ·rw [decide_eq_true hA] at ha
  refine FnC.intro ti_ok Tryz.func28 rfl Tryz.ntmps28 Tryz.call28 rfl (Nat.le_of_ble_eq_true rfl) rfl ?_
  (repeat' ((conv=>whnf);first|with_reducible refine gA ?_|((with_reducible refine callE_id ?_); first | refine CallE.con ⟨_, ha, ?_⟩ | refine CallE.inl ?_) | ((with_reducible refine callI_id ?_); first | with_reducible refine CallI.inl ti_ok i65 rfl ?_ | with_reducible refine CallI.inl ti_ok i107 rfl ?_)|(with_reducible first|refine gB ?_|refine gZ (fun x hx hu=>?_)|refine gY (fun x hx=>?_)|refine gE ?_|refine Both.mk ?_ ?_|refine gS (fun h=>?_) (fun h=>?_)|refine Spl.nt ?_|refine Spl.mk (fun h=>?_) (fun h=>?_))))
  conv => whnf
  generalize hc : nthR k ws.length = c at *
  refine loop_ruleW ti_ok (fun i : Nat => i ≤ ws.length ∧ RngP m (ws.take i)) (ciA m ws c) (fun i => ws.length - i) 0 ⟨Nat.zero_le _, fun w hw' => by simp at hw'⟩ (Wk.enF (And.intro rfl (And.intro rfl (And.intro (it_eq (by rw [hwl'])) (And.intro rfl trivial)))) (by (repeat (first | exact trivial | refine And.intro (obw_eq rfl (by with_unfolding_all exact rfl)) ?_ | refine And.intro (obw_fr (by with_unfolding_all exact rfl) (by (repeat (first | exact trivial | refine And.intro (by with_unfolding_all exact rfl) ?_)))) ?_))) rfl) ?_
  intro i ⟨hi, hRi⟩
  rcases Nat.lt_or_ge i ws.length with hil | hil
  ·obtain ⟨x, hx⟩ := lt_get hil
   have hxs := hw x (List.mem_of_getElem? hx)
   have hnx : 0 ≤ x.a ∧ x.a < m.length → RngP m (ws.take (i + 1)) := fun h y hy => by
    rw [take_snoc hx] at hy
    rcases List.mem_append.1 hy with hy | hy
    ·exact hRi y hy
    ·rw [List.mem_singleton.1 hy]; exact h
   obtain ⟨xa, xs, xk, xi, xe⟩ := x
   obtain ⟨g, rfl⟩ := is32 hxs
   unfold ciA encSt
   (repeat' ((conv=>whnf);first|with_reducible refine gA ?_|with_reducible refine at_hm hx ?_ | with_reducible refine AtA.mk' ?_ | ((with_reducible refine callE_id ?_); refine CallE.inl ?_) | ((with_reducible refine callI_id ?_); with_reducible refine CallI.inl ti_ok i63 rfl ?_)|(with_reducible first|refine gB ?_|refine gZ (fun x hx hu=>?_)|refine gY (fun x hx=>?_)|refine gE ?_|refine Both.mk ?_ ?_|refine gS (fun h=>?_) (fun h=>?_)|refine Spl.nt ?_|refine Spl.mk (fun h=>?_) (fun h=>?_))))
   all_goals first
    | rfl
    | refine ⟨i + 1, ⟨hil, hnx (by dsimp only at *; omega)⟩, by first | omega | (dsimp only; omega), Wk.enF (And.intro rfl (And.intro rfl (And.intro rfl (And.intro (it_eq (by omega)) trivial)))) (by (repeat (first | exact trivial | refine And.intro (obw_eq rfl (by with_unfolding_all exact rfl)) ?_ | refine And.intro (obw_fr (by with_unfolding_all exact rfl) (by (repeat (first | exact trivial | refine And.intro (by with_unfolding_all exact rfl) ?_)))) ?_))) rfl⟩
  ·exact absurd (by rw [show i = ws.length by omega, List.take_length] at hRi; exact hRi) hR
 ·rw [decide_eq_false hA] at ha
  refine FnC.intro ti_ok Tryz.func28 rfl Tryz.ntmps28 Tryz.call28 rfl (Nat.le_of_ble_eq_true rfl) rfl ?_
  (repeat' ((conv=>whnf);first|with_reducible refine gA ?_|((with_reducible refine callE_id ?_); first | refine CallE.con ⟨_, ha, ?_⟩ | refine CallE.inl ?_)|(with_reducible first|refine gB ?_|refine gZ (fun x hx hu=>?_)|refine gY (fun x hx=>?_)|refine gE ?_|refine Both.mk ?_ ?_|refine gS (fun h=>?_) (fun h=>?_)|refine Spl.nt ?_|refine Spl.mk (fun h=>?_) (fun h=>?_))))
  rfl
end Go.Proofs.YthknbpijaoljgaaGreatDoor
namespace Go.Proofs.YthknbpijaoljgaaGreatDoor
open Go.Sy
theorem callP_idH {P : Program} {f : Nat} {args : List AV} {K : AV → Prop} (h : CallP P f args K) : CallP P f args K := h
theorem wk_id {N : Nat} {σ τ : S} (h : Wk N σ τ) : Wk N σ τ := h
def eaS (p q : Nat) (m : List (List UInt8)) (ws : List Wr) : S := ⟨[(4, .d (.ot .nilFunc)), (3, .ptr 7 0), (5, .ptr p 0), (6, .ptr q 0)],
 [(p, .cells 1 [.d (.it .i64 ((ws.map encW).length : Nat))]), (q, .cells 1 [.d (.fs 1 (vI (esW ws)))]), (7, .cells 1 [.d (.bl false)]), (5, .frame 29 [(3, .ptr 0 0), (5, .ptr 1 0), (6, .ptr 2 0), (7, .ptr 3 0), (8, .ptr 4 0)]), (4, .cells 1 [.nl 1]), (3, .cells 1 [.d (.bl false)]), (2, .cells 1 [.nl 1]), (1, .cells 1 [.d (.it .i64 65536)]), (0, .cells 2 ((encSt m ws).map .d))], 10⟩
def swp (n : Nat) : Nat := if n = 8 then 9 else if n = 9 then 8 else n
theorem eaS_swap (m : List (List UInt8)) (ws : List Wr) {N : Nat} : Wk N (eaS 9 8 m ws) (eaS 8 9 m ws) := Wk.ren swp (And.intro rfl (And.intro rfl (And.intro rfl (And.intro rfl trivial)))) (And.intro rfl (And.intro rfl (And.intro rfl (And.intro rfl (And.intro rfl (And.intro rfl (And.intro rfl (And.intro rfl (And.intro rfl trivial))))))))) rfl rfl
def faL (F : Func) (ws : List Wr) (l : List (List D)) (t : Nat) : S := ⟨[(0, .yld 11), (1, .ptr 8 0), (2, .ptr 7 0), (3, .ptr 9 0), (9, .d (.it .u64 (cpw ws.length : Nat))), (10, .d (.it .u64 (t : Nat)))],
 [(11, rgL 10 F), (10, .frame 29 [(3, .ptr 0 0), (5, .ptr 1 0), (6, .ptr 2 0), (7, .ptr 3 0), (8, .ptr 4 0)]), (8, .cells 1 [.d (.it .i64 ((ws.map encW).length : Nat))]), (9, .cells 1 [.d (.fs 1 (vI (esW ws)))]), (7, .cells 1 [.d (.bl false)]), (4, .cells 1 [.ts 1 l 12]), (12, .tail 68 true), (3, .cells 1 [.d (.bl false)]), (2, .cells 1 [.nl 1]), (1, .cells 1 [.d (.it .i64 65536)])], 13⟩
def faA (F : Func) (ws : List Wr) (t : Nat) : S := faL F ws (numK ws t) t
theorem faA_to {F : Func} {ws : List Wr} {l : List (List D)} {t : Nat} {N : Nat} {σ : S} (h : numK ws t = l) (k : Wk N σ (faL F ws l t)) : Wk N σ (faA F ws t) := by unfold faA; rw [h]; exact k
def faB (F : Func) (m : List (List UInt8)) (ws : List Wr) : S := ⟨[(0, .yld 11), (1, .ptr 8 0), (2, .ptr 7 0), (3, .ptr 9 0), (9, .d (.it .u64 (cpw ws.length : Nat))), (10, .d (.it .u64 0))],
 [(11, rgL 10 F), (10, .frame 29 [(3, .ptr 0 0), (5, .ptr 1 0), (6, .ptr 2 0), (7, .ptr 3 0), (8, .ptr 4 0)]), (8, .cells 1 [.d (.it .i64 ((ws.map encW).length : Nat))]), (9, .cells 1 [.d (.fs 1 (vI (esW ws)))]), (7, .cells 1 [.d (.bl false)]), (4, .cells 1 [.nl 1]), (3, .cells 1 [.d (.bl false)]), (2, .cells 1 [.nl 1]), (1, .cells 1 [.d (.it .i64 65536)])], 12⟩
set_option maxHeartbeats 16000000 in
theorem call_ok (m : List (List UInt8)) (ws : List Wr) (hw : WsOK ws) (hwl : ws.length ≤ 8) : FnC Tryz.prog 53 [.dg 2 (encSt m ws), .d (.bl false), .d (.it .i64 65536)] (.tup [.d (.fs 1 (numK ws (cpw ws.length))), .d (.bl true)]) := by
 have hwl' : (ws.map encW).length = ws.length := List.length_map ..
 have hct : FnC Tryz.prog 129 [.d (.it .i64 ((ws.map encW).length : Nat)), .d (.bl false)] (.d (.it .u64 (cpw ws.length : Nat))) := by rw [hwl']; exact ccount_ok ws.length hwl
 have hpn := cpw_le hwl
 have hep := cepo_ok m ws hw (by omega)
 refine FnC.introW ti_ok Tryz.func53 rfl Tryz.ntmps53 Tryz.call53 rfl (Nat.le_of_ble_eq_true rfl) rfl ?_
 (repeat' ((conv=>whnf);first|with_reducible refine gA ?_|((with_reducible refine callP_idH ?_); refine CallP.mk ⟨_, hep, ?_⟩) | ((with_reducible refine callE_id ?_); first | refine CallE.con ⟨_, hep, ?_⟩ | refine CallE.inl ?_) | ((with_reducible refine callI_id ?_); with_reducible refine CallI.inl ti_ok i98 rfl ?_)|(with_reducible first|refine gB0 ?_|refine gZ (fun x hx hu=>?_)|refine gY (fun x hx=>?_)|refine gE ?_|refine Both.mk ?_ ?_|refine gS (fun h=>?_) (fun h=>?_)|refine Spl.nt ?_|refine Spl.mk (fun h=>?_) (fun h=>?_))))
 all_goals first | (exfalso; omega) | skip
 refine DrawS.mid (eaS 8 9 m ws) (draw_all ti_ok mixed [0] (by decide +kernel) ?_) ?_
 ·(repeat' ((conv=>whnf);first|with_reducible refine gA ?_|with_reducible exact trivial | with_reducible refine Br.mk ?_ ?_ | with_reducible refine AtA.mk' ?_ | ((with_reducible refine callE_id ?_); refine CallE.con ⟨_, hep, ?_⟩) | ((with_reducible refine callP_idH ?_); refine CallP.mk ⟨_, hep, ?_⟩) | ((with_reducible refine wk_id ?_); first | exact Wk.enF (And.intro rfl (And.intro rfl (And.intro rfl (And.intro rfl trivial)))) (by (repeat (first | exact trivial | refine And.intro (obw_eq rfl (by with_unfolding_all exact rfl)) ?_ | refine And.intro (obw_fr (by with_unfolding_all exact rfl) (by (repeat (first | exact trivial | refine And.intro (by with_unfolding_all exact rfl) ?_)))) ?_))) rfl | exact Wk.trans (Wk.enF (τ := eaS 9 8 m ws) (And.intro rfl (And.intro rfl (And.intro rfl (And.intro rfl trivial)))) (by (repeat (first | exact trivial | refine And.intro (obw_eq rfl (by with_unfolding_all exact rfl)) ?_ | refine And.intro (obw_fr (by with_unfolding_all exact rfl) (by (repeat (first | exact trivial | refine And.intro (by with_unfolding_all exact rfl) ?_)))) ?_))) rfl) (eaS_swap m ws))|(with_reducible first|refine gB0 ?_|refine gZ (fun x hx hu=>?_)|refine gY (fun x hx=>?_)|refine gE ?_|refine Both.mk ?_ ?_|refine gS (fun h=>?_) (fun h=>?_)|refine Spl.nt ?_|refine Spl.mk (fun h=>?_) (fun h=>?_))))
 (repeat' ((conv=>whnf);first|with_reducible refine gA ?_|((with_reducible refine callE_id ?_); refine CallE.con ⟨_, hct, ?_⟩)|(with_reducible first|refine gB ?_|refine gZ (fun x hx hu=>?_)|refine gY (fun x hx=>?_)|refine gE ?_|refine Both.mk ?_ ?_|refine gS (fun h=>?_) (fun h=>?_)|refine Spl.nt ?_|refine Spl.mk (fun h=>?_) (fun h=>?_))))
 refine RangeS.intro ti_ok i128 rfl rfl ?_
 (repeat' ((conv=>whnf);first|with_reducible refine gA ?_|((with_reducible refine callE_id ?_); refine CallE.con ⟨_, hct, ?_⟩)|(with_reducible first|refine gB ?_|refine gZ (fun x hx hu=>?_)|refine gY (fun x hx=>?_)|refine gE ?_|refine Both.mk ?_ ?_|refine gS (fun h=>?_) (fun h=>?_)|refine Spl.nt ?_|refine Spl.mk (fun h=>?_) (fun h=>?_))))
 conv => whnf
 refine LoopS.wk (τ := faB Tryz.f53 m ws) (Wk.enF (And.intro rfl (And.intro rfl (And.intro rfl (And.intro rfl (And.intro rfl (And.intro rfl trivial)))))) (by (repeat (first | exact trivial | refine And.intro (obw_eq rfl (by with_unfolding_all exact rfl)) ?_ | refine And.intro (obw_fr (by with_unfolding_all exact rfl) (by (repeat (first | exact trivial | refine And.intro (by with_unfolding_all exact rfl) ?_)))) ?_))) rfl) ?_
 refine loop_ruleW ti_ok (fun t : Nat => t ≤ cpw ws.length) (faA Tryz.f53 ws) (fun t => cpw ws.length - t) 0 (Nat.zero_le _) (Wk.trans (Wk.nlTs 4 0 1 1 68 (by with_unfolding_all exact rfl) (by with_unfolding_all exact rfl)) (Wk.en ⟨And.intro rfl (And.intro rfl (And.intro rfl (And.intro rfl (And.intro rfl (And.intro rfl trivial))))), (by (repeat (first | exact trivial | refine And.intro rfl ?_))), rfl⟩)) ?_
 intro t ht
 have hln := numK_len ws t
 by_cases htn : t < cpw ws.length
 ·have hnt : FnC Tryz.prog 130 [.d (.it .u64 (t : Nat)), .d (.it .i64 ((ws.map encW).length : Nat)), .d (.bl false)] (.d (.it .u64 (nthR t ws.length : Nat))) := by rw [hwl']; exact cnth_ok t ws.length hwl htn
  have hal := calw_ok (esW ws) (by rw [esW_len]; exact hwl) t (by omega)
  rw [esW_len] at hal
  by_cases hA : AlwP (esW ws) t
  ·rw [decide_eq_true hA] at hal
   have hy := numK_yes hA
   (repeat' ((conv=>whnf);first|with_reducible refine gA ?_|((with_reducible refine callE_id ?_); first | refine CallE.con ⟨_, hnt, ?_⟩ | refine CallE.con ⟨_, hal, ?_⟩) | ((with_reducible refine letI_id ?_); refine LetI.as (u64_wrap (by omega)) ?_) | with_reducible refine YieldI.intro ti_ok (by with_unfolding_all exact rfl) (by with_unfolding_all exact rfl) (by with_unfolding_all exact rfl) ?_|(with_reducible first|refine gB ?_|refine gZ (fun x hx hu=>?_)|refine gY (fun x hx=>?_)|refine gE ?_|refine Both.mk ?_ ?_|refine gS (fun h=>?_) (fun h=>?_)|refine Spl.nt ?_|refine Spl.mk (fun h=>?_) (fun h=>?_))))
   all_goals first | (exfalso; omega) | skip
   refine ⟨t + 1, htn, by first | omega | (dsimp only; omega), faA_to hy (Wk.enF (And.intro rfl (And.intro rfl (And.intro rfl (And.intro rfl (And.intro rfl (And.intro (it_eq (by omega)) trivial)))))) (by (repeat (first | exact trivial | refine And.intro (obw_eq rfl (by with_unfolding_all exact rfl)) ?_ | refine And.intro (obw_fr (by with_unfolding_all exact rfl) (by (repeat (first | exact trivial | refine And.intro (by with_unfolding_all exact rfl) ?_)))) ?_))) rfl)⟩
  ·rw [decide_eq_false hA] at hal
   have hy := numK_no hA
   (repeat' ((conv=>whnf);first|with_reducible refine gA ?_|((with_reducible refine callE_id ?_); first | refine CallE.con ⟨_, hnt, ?_⟩ | refine CallE.con ⟨_, hal, ?_⟩) | ((with_reducible refine letI_id ?_); refine LetI.as (u64_wrap (by omega)) ?_)|(with_reducible first|refine gB ?_|refine gZ (fun x hx hu=>?_)|refine gY (fun x hx=>?_)|refine gE ?_|refine Both.mk ?_ ?_|refine gS (fun h=>?_) (fun h=>?_)|refine Spl.nt ?_|refine Spl.mk (fun h=>?_) (fun h=>?_))))
   all_goals first | (exfalso; omega) | skip
   refine ⟨t + 1, htn, by first | omega | (dsimp only; omega), faA_to hy (Wk.enF (And.intro rfl (And.intro rfl (And.intro rfl (And.intro rfl (And.intro rfl (And.intro (it_eq (by omega)) trivial)))))) (by (repeat (first | exact trivial | refine And.intro (obw_eq rfl (by with_unfolding_all exact rfl)) ?_ | refine And.intro (obw_fr (by with_unfolding_all exact rfl) (by (repeat (first | exact trivial | refine And.intro (by with_unfolding_all exact rfl) ?_)))) ?_))) rfl)⟩
 ·have hte : t = cpw ws.length := by omega
  subst hte
  (repeat' ((conv=>whnf);first|with_reducible refine gA ?_|(with_reducible first|refine gB ?_|refine gZ (fun x hx hu=>?_)|refine gY (fun x hx=>?_)|refine gE ?_|refine Both.mk ?_ ?_|refine gS (fun h=>?_) (fun h=>?_)|refine Spl.nt ?_|refine Spl.mk (fun h=>?_) (fun h=>?_))))
  refine ⟨⟨[(6, .ptr 2 0), (7, .ptr 3 0)], [(2, .cells 1 [.d (.fs 1 (numK ws (cpw ws.length)))]), (3, .cells 1 [.d (.bl true)])], 40⟩, Wk.vwL (And.intro (Vw.eq rfl) (And.intro (Vw.eq rfl) trivial)) (And.intro (VwO.cell _ _ (Vw.ts' rfl) rfl) (And.intro (VwO.cell _ _ (Vw.eq rfl) rfl) trivial)) rfl, ?_⟩
  rfl
end Go.Proofs.YthknbpijaoljgaaGreatDoor
namespace Go.Proofs.YthknbpijaoljgaaGreatDoor
open Go.Sy
theorem spl_idH {b : Bool} {A B : Prop} (h : Spl b A B) : Spl b A B := h
theorem neqH {b : Bool} (h : b = true) : (!b) = false := by rw [h]; rfl
theorem neqG {b : Bool} (h : b = false) : (!b) = true := by rw [h]; rfl
theorem fromI_ok (l : List (List UInt8)) (h : 1 ≤ l.length ∧ l.length ≤ 65) : FnC Tryz.prog 30 [.d (.fs 32 (l.map encS))] (.tup [.d (encD (some ⟨0, l, [], [], 0⟩)), .d (.it .i64 0)]) := by
 have hl : (l.map encS).length = l.length := List.length_map ..
 have hne : (l.map encS).isEmpty = false := by
  cases l with
  | nil => simp at h
  | cons => rfl
 refine FnC.introW ti_ok Tryz.func30 rfl Tryz.ntmps30 Tryz.call30 rfl (Nat.le_of_ble_eq_true rfl) rfl ?_
 (repeat' ((conv=>whnf);first|with_reducible refine gA ?_|((with_reducible refine callE_id ?_); refine CallE.inl ?_) | with_reducible refine CallI.inl ti_ok i71 rfl ?_ | with_reducible refine CallI.inl ti_ok i66 rfl ?_ | with_reducible refine Spl.no hne ?_|(with_reducible first|refine gB ?_|refine gZ (fun x hx hu=>?_)|refine gY (fun x hx=>?_)|refine gE ?_|refine Both.mk ?_ ?_|refine gS (fun h=>?_) (fun h=>?_)|refine Spl.nt ?_|refine Spl.mk (fun h=>?_) (fun h=>?_))))
 refine ⟨⟨[(2, .d (.fp 6 (encDk ⟨0, l, [], [], 0⟩))), (3, .d (.it .i64 0))], [], 8⟩, Wk.trans (Wk.vwL (τ := ⟨[(2, .ptr 6 0), (3, .d (.it .i64 0))], [(6, .cells 6 ((encDk ⟨0, l, [], [], 0⟩).map AV.d))], 8⟩) (And.intro (Vw.eq (by with_unfolding_all exact rfl)) (And.intro (Vw.eq (by with_unfolding_all exact rfl)) trivial)) ?_ rfl) (Wk.frzPL 6 6 ((encDk ⟨0, l, [], [], 0⟩).map AV.d) rfl (And.intro ⟨_, rfl, .inr ⟨encDk ⟨0, l, [], [], 0⟩, rfl, rfl, rfl⟩⟩ (And.intro ⟨_, rfl, .inl rfl⟩ trivial)) trivial rfl), ?_⟩
 ·exact And.intro (VwO.cells _ _ _ (.cons (Vw.an _ rfl) rfl (.cons (Vw.eq rfl) rfl (.cons (Vw.ts' rfl) rfl (.cons (Vw.nl' rfl) rfl (.cons (Vw.nl' rfl) rfl (.cons (Vw.eq rfl) rfl .nil))))))) trivial
 ·rfl
theorem fromI_no (l : List (List UInt8)) (h : ¬ (1 ≤ l.length ∧ l.length ≤ 65)) : FnC Tryz.prog 30 [.d (.fs 32 (l.map encS))] (.tup [.d (.ot (.pointer none)), .d (.it .i64 1)]) := by
 have hl : (l.map encS).length = l.length := List.length_map ..
 refine FnC.intro ti_ok Tryz.func30 rfl Tryz.ntmps30 Tryz.call30 rfl (Nat.le_of_ble_eq_true rfl) rfl ?_
 (repeat' ((conv=>whnf);first|with_reducible refine gA ?_|((with_reducible refine callE_id ?_); refine CallE.inl ?_) | with_reducible refine CallI.inl ti_ok i71 rfl ?_|(with_reducible first|refine gB ?_|refine gZ (fun x hx hu=>?_)|refine gY (fun x hx=>?_)|refine gE ?_|refine Both.mk ?_ ?_|refine gS (fun h=>?_) (fun h=>?_)|refine Spl.nt ?_|refine Spl.mk (fun h=>?_) (fun h=>?_))))
 all_goals first | (exfalso; omega) | rfl
theorem rd_none (l : List (List UInt8)) (n : Int) (h0 : 0 ≤ n) : rdS (some ⟨0, l, [], [], 0⟩) n = imS l n := by
 unfold rdS imS
 show (if 0 ≤ n ∧ n < l.length then l.getD n.toNat zeroS else zeroS) = l.getD n.toNat zeroS
 split
 ·rfl
 ·rw [List.getD_eq_getElem?_getD, List.getElem?_eq_none (by omega)]; rfl
def treeK (m : List (List UInt8)) (ws : List Wr) (k : Nat) : List Nod := (treeV (imS (imgI m ws k ws.length))).1
set_option maxHeartbeats 4000000 in
theorem ctree_ok (m : List (List UInt8)) (hm : ImOK m) (h : 1 ≤ m.length ∧ m.length ≤ 65) (ws : List Wr) (hw : WsOK ws) (hwl : ws.length ≤ 8) (k : Nat) (hk : k < 256) (hA : AlwP (esW ws) k) (hR : RngP m ws) : FnC Tryz.prog 54 [.dg 2 (encSt m ws), .d (.it .u64 (nthR k ws.length : Nat))] (.tup [.d (.fs 3 ((treeK m ws k).map encN)), .d (.bl true)]) := by
 have h1 := cimg_ok m hm (by omega) ws hw hwl k hk hA hR (fun e => by rw [e] at h; simp at h)
 have hl := imgI_len m ws k ws.length
 have h2 := fromI_ok (imgI m ws k ws.length) (by omega)
 have hI := imgI_ok hm hw k ws.length
 have h3 := tree_ok (some ⟨0, imgI m ws k ws.length, [], [], 0⟩) ⟨hI, (fun w hw => by cases hw), by show (imgI m ws k ws.length).length ≤ 65; omega, by show (0 : Nat) ≤ 100000; omega⟩
 rw [tree_fe (fun n hn => rd_none (imgI m ws k ws.length) n hn)] at h3
 have h3 : FnC Tryz.prog 31 [.d (encD (some ⟨0, imgI m ws k ws.length, [], [], 0⟩))] (.tup [.d (.fs 3 ((treeK m ws k).map encN)), .d (.bl (treeV (imS (imgI m ws k ws.length))).2)]) := h3
 refine FnC.intro ti_ok Tryz.func54 rfl Tryz.ntmps54 Tryz.call54 rfl (Nat.le_of_ble_eq_true rfl) rfl ?_
 (repeat' ((conv=>whnf);first|with_reducible refine gA ?_|((with_reducible refine callE_id ?_); first | refine CallE.con ⟨_, h1, ?_⟩ | refine CallE.con ⟨_, h2, ?_⟩ | refine CallE.con ⟨_, h3, ?_⟩)|(with_reducible first|refine gB ?_|refine gZ (fun x hx hu=>?_)|refine gY (fun x hx=>?_)|refine gE ?_|refine Both.mk ?_ ?_|refine gS (fun h=>?_) (fun h=>?_)|refine Spl.nt ?_|refine Spl.mk (fun h=>?_) (fun h=>?_))))
 rfl
set_option maxHeartbeats 4000000 in
theorem ctree_rng (m : List (List UInt8)) (ws : List Wr) (hw : WsOK ws) (hwl : ws.length ≤ 8) (k : Nat) (hk : k < 256) (hR : ¬ RngP m ws) : FnC Tryz.prog 54 [.dg 2 (encSt m ws), .d (.it .u64 (nthR k ws.length : Nat))] (.tup [.d (.fs 3 []), .d (.bl false)]) := by
 have h1 := cimg_no m ws hw hwl k hk hR
 refine FnC.intro ti_ok Tryz.func54 rfl Tryz.ntmps54 Tryz.call54 rfl (Nat.le_of_ble_eq_true rfl) rfl ?_
 (repeat' ((conv=>whnf);first|with_reducible refine gA ?_|((with_reducible refine callE_id ?_); first | refine CallE.con ⟨_, h1, ?_⟩)|(with_reducible first|refine gB ?_|refine gZ (fun x hx hu=>?_)|refine gY (fun x hx=>?_)|refine gE ?_|refine Both.mk ?_ ?_|refine gS (fun h=>?_) (fun h=>?_)|refine Spl.nt ?_|refine Spl.mk (fun h=>?_) (fun h=>?_))))
 rfl
set_option maxHeartbeats 4000000 in
theorem ctree_big (m : List (List UInt8)) (hm : ImOK m) (hml : m.length ≤ 1000) (h : 65 < m.length) (ws : List Wr) (hw : WsOK ws) (hwl : ws.length ≤ 8) (k : Nat) (hk : k < 256) (hA : AlwP (esW ws) k) (hR : RngP m ws) : FnC Tryz.prog 54 [.dg 2 (encSt m ws), .d (.it .u64 (nthR k ws.length : Nat))] (.tup [.d (.fs 3 []), .d (.bl false)]) := by
 have h1 := cimg_ok m hm hml ws hw hwl k hk hA hR (fun e => by rw [e] at h; simp at h)
 have hl := imgI_len m ws k ws.length
 have h2 := fromI_no (imgI m ws k ws.length) (by omega)
 refine FnC.intro ti_ok Tryz.func54 rfl Tryz.ntmps54 Tryz.call54 rfl (Nat.le_of_ble_eq_true rfl) rfl ?_
 (repeat' ((conv=>whnf);first|with_reducible refine gA ?_|((with_reducible refine callE_id ?_); first | refine CallE.con ⟨_, h1, ?_⟩ | refine CallE.con ⟨_, h2, ?_⟩)|(with_reducible first|refine gB ?_|refine gZ (fun x hx hu=>?_)|refine gY (fun x hx=>?_)|refine gE ?_|refine Both.mk ?_ ?_|refine gS (fun h=>?_) (fun h=>?_)|refine Spl.nt ?_|refine Spl.mk (fun h=>?_) (fun h=>?_))))
 rfl
set_option maxHeartbeats 4000000 in
theorem ctree_nil : FnC Tryz.prog 54 [.dg 2 (encSt [] []), .d (.it .u64 0)] (.tup [.d (.fs 3 []), .d (.bl false)]) := by
 have ha := calws_ok [] [] (fun w hw => by cases hw) (by decide) 0 (by decide)
 rw [decide_eq_true (by decide)] at ha
 have ha : FnC Tryz.prog 64 [.dg 2 (encSt [] []), .d (.it .u64 0)] (.d (.bl true)) := ha
 have h2 := fromI_no [] (by simp)
 refine FnC.intro ti_ok Tryz.func54 rfl Tryz.ntmps54 Tryz.call54 rfl (Nat.le_of_ble_eq_true rfl) rfl ?_
 (repeat' ((conv=>whnf);first|with_reducible refine gA ?_|((with_reducible refine callE_id ?_); first | refine CallE.con ⟨_, ha, ?_⟩ | refine CallE.con ⟨_, h2, ?_⟩ | refine CallE.inl ?_) | ((with_reducible refine callI_id ?_); first | with_reducible refine CallI.inl ti_ok i28 rfl ?_ | with_reducible refine CallI.inl ti_ok i65 rfl ?_ | with_reducible refine CallI.inl ti_ok i107 rfl ?_ | with_reducible refine CallI.inl ti_ok i66 rfl ?_) | with_reducible refine LoopS.unroll ti_ok 1 ?_|(with_reducible first|refine gB ?_|refine gZ (fun x hx hu=>?_)|refine gY (fun x hx=>?_)|refine gE ?_|refine Both.mk ?_ ?_|refine gS (fun h=>?_) (fun h=>?_)|refine Spl.nt ?_|refine Spl.mk (fun h=>?_) (fun h=>?_))))
 all_goals rfl
set_option maxHeartbeats 4000000 in
theorem eqNs_ok (a b : List Nod) (ha : a.length ≤ 100000) : FnC Tryz.prog 57 [.d (.fs 3 (a.map encN)), .d (.fs 3 (b.map encN))] (.d (.bl (decide (a = b)))) := by
 refine FnC.intro ti_ok Tryz.func57 rfl Tryz.ntmps57 Tryz.call57 rfl (Nat.le_of_ble_eq_true rfl) rfl ?_
 have hla : (a.map encN).length = a.length := List.length_map ..
 have hlb : (b.map encN).length = b.length := List.length_map ..
 by_cases he : a.length = b.length
 ·(repeat' ((conv=>whnf);first|with_reducible refine gA ?_|(with_reducible first|refine gB ?_|refine gZ (fun x hx hu=>?_)|refine gY (fun x hx=>?_)|refine gE ?_|refine Both.mk ?_ ?_|refine gS (fun h=>?_) (fun h=>?_)|refine Spl.nt ?_|refine Spl.mk (fun h=>?_) (fun h=>?_))))
  refine loop_rule ti_ok (fun k : Nat => k ≤ a.length ∧ a.take k = b.take k) (fun k => ⟨[(0, .d (.fs 3 (a.map encN))), (1, .d (.fs 3 (b.map encN))), (12, .d (.it .i64 (a.length : Nat))), (13, .d (.it .i64 (k : Nat)))], [], 0⟩) (fun k => a.length - k) 0 ⟨Nat.zero_le _, rfl⟩ ⟨And.intro rfl (And.intro rfl (And.intro (it_eq (by rw [hla])) (And.intro rfl trivial))), trivial, rfl⟩ ?_
  intro k ⟨k1, k2⟩
  rcases Nat.lt_or_ge k a.length with hkl | hkl
  ·obtain ⟨x, hx⟩ := lt_get hkl
   obtain ⟨y, hy⟩ := lt_get (l := b) (k := k) (by omega)
   have hq : eqDs (encN x) (encN y) = decide (x = y) := eqNn x y
   by_cases hxy : x = y
   ·rw [decide_eq_true hxy] at hq
    (repeat' ((conv=>whnf);first|with_reducible refine gA ?_|((with_reducible refine spl_idH ?_); refine Spl.no (neqH hq) ?_)|(with_reducible first|refine gB ?_|refine gZ (fun x hx hu=>?_)|refine gY (fun x hx=>?_)|refine gE ?_|refine Both.mk ?_ ?_|refine gS (fun h=>?_) (fun h=>?_)|refine Spl.nt ?_|refine Spl.mk (fun h=>?_) (fun h=>?_))))
    refine again (k + 1) ⟨by omega, ?_⟩ (by dsimp only; omega) (And.intro rfl (And.intro rfl (And.intro rfl (And.intro (it_eq (by omega)) trivial)))) trivial rfl
    rw [take_snoc hx, take_snoc hy, k2, hxy]
   ·rw [decide_eq_false hxy] at hq
    (repeat' ((conv=>whnf);first|with_reducible refine gA ?_|((with_reducible refine spl_idH ?_); refine Spl.yes (neqG hq) ?_)|(with_reducible first|refine gB ?_|refine gZ (fun x hx hu=>?_)|refine gY (fun x hx=>?_)|refine gE ?_|refine Both.mk ?_ ?_|refine gS (fun h=>?_) (fun h=>?_)|refine Spl.nt ?_|refine Spl.mk (fun h=>?_) (fun h=>?_))))
    refine bl_eq (decide_eq_false fun hab => hxy ?_).symm
    rw [hab, hy] at hx
    exact (Option.some.inj hx).symm
  ·(repeat' ((conv=>whnf);first|with_reducible refine gA ?_|(with_reducible first|refine gB ?_|refine gZ (fun x hx hu=>?_)|refine gY (fun x hx=>?_)|refine gE ?_|refine Both.mk ?_ ?_|refine gS (fun h=>?_) (fun h=>?_)|refine Spl.nt ?_|refine Spl.mk (fun h=>?_) (fun h=>?_))))
   exact bl_eq (decide_eq_true (take_endN k2 hkl (by omega))).symm
 ·(repeat' ((conv=>whnf);first|with_reducible refine gA ?_|(with_reducible first|refine gB ?_|refine gZ (fun x hx hu=>?_)|refine gY (fun x hx=>?_)|refine gE ?_|refine Both.mk ?_ ?_|refine gS (fun h=>?_) (fun h=>?_)|refine Spl.nt ?_|refine Spl.mk (fun h=>?_) (fun h=>?_))))
  exact bl_eq (decide_eq_false fun hab => he (by rw [hab])).symm
end Go.Proofs.YthknbpijaoljgaaGreatDoor
namespace Go.Proofs.YthknbpijaoljgaaGreatDoor
open Go.Sy
def insT {α : Type} [DecidableEq α] (out : List α) (t : α) : List α := if t ∈ out then out else out ++ [t]
def trT (m : List (List UInt8)) (ws : List Wr) (j : Nat) : List (List Nod) := (((allK ws (cpw ws.length)).take j).map (treeK m ws)).foldl insT []
def encT (L : List (List Nod)) : List (List D) := L.map fun t => [.fs 3 (t.map encN)]
theorem trT_succ {m : List (List UInt8)} {ws : List Wr} {j k : Nat} (h : (allK ws (cpw ws.length))[j]? = some k) : trT m ws (j + 1) = insT (trT m ws j) (treeK m ws k) := by
 unfold trT
 rw [take_snoc h, List.map_append, List.foldl_append]; rfl
theorem trT_len (m : List (List UInt8)) (ws : List Wr) : ∀ j, (trT m ws j).length ≤ j
 | 0 => Nat.le_refl _
 | j + 1 => by
  have ih := trT_len m ws j
  cases h : (allK ws (cpw ws.length))[j]? with
  | none =>
   have : trT m ws (j + 1) = trT m ws j := by
    unfold trT
    rw [List.take_of_length_le (by rw [List.getElem?_eq_none_iff] at h; omega), List.take_of_length_le (by rw [List.getElem?_eq_none_iff] at h; omega)]
   rw [this]; omega
  | some k =>
   rw [trT_succ h]
   unfold insT
   split
   ·omega
   ·rw [List.length_append, List.length_singleton]; omega
theorem allK_at {ws : List Wr} {t j k : Nat} (h : (allK ws t)[j]? = some k) : k < t ∧ AlwP (esW ws) k := by
 have hm := List.mem_of_getElem? h
 unfold allK at hm
 obtain ⟨h1, h2⟩ := List.mem_filter.1 hm
 exact ⟨List.mem_range.1 h1, of_decide_eq_true h2⟩
theorem numK_at {ws : List Wr} {t j k : Nat} (h : (allK ws t)[j]? = some k) : (numK ws t)[j]? = some [.it .u64 (nthR k ws.length : Nat)] := by
 unfold numK vU
 rw [List.getElem?_map, List.getElem?_map, h]; rfl
theorem numK_len' (ws : List Wr) (t : Nat) : (numK ws t).length = (allK ws t).length := by
 unfold numK vU
 rw [List.length_map, List.length_map]
def tsA (m : List (List UInt8)) (ws : List Wr) (j : Nat) : S := ⟨[(1, .ptr 0 0), (6, .ts 1 (encT (trT m ws j)) 2), (18, .d (.fs 1 (numK ws (cpw ws.length)))), (19, .d (.it .i64 ((numK ws (cpw ws.length)).length : Nat))), (20, .d (.it .i64 (j : Nat)))], [(0, .cells 2 ((encSt m ws).map .d)), (2, .tail 62 true)], 3⟩
theorem insT_mem {α : Type} [DecidableEq α] {l : List α} {t x : α} : x ∈ insT l t ↔ x ∈ l ∨ x = t := by
 unfold insT
 split
 ·rename_i h
  exact ⟨.inl, fun hx => hx.elim id fun e => e ▸ h⟩
 ·simp
theorem trT_mem (m : List (List UInt8)) (ws : List Wr) : ∀ j, ∀ x ∈ trT m ws j, ∃ k, x = treeK m ws k
 | 0, x, h => by cases h
 | j + 1, x, h => by
  cases hk : (allK ws (cpw ws.length))[j]? with
  | none =>
   have e : trT m ws (j + 1) = trT m ws j := by
    unfold trT
    rw [List.take_of_length_le (by rw [List.getElem?_eq_none_iff] at hk; omega), List.take_of_length_le (by rw [List.getElem?_eq_none_iff] at hk; omega)]
   rw [e] at h
   exact trT_mem m ws j x h
  | some k =>
   rw [trT_succ hk, insT_mem] at h
   rcases h with h | h
   ·exact trT_mem m ws j x h
   ·exact ⟨k, h⟩
theorem treeK_len (m : List (List UInt8)) (ws : List Wr) (k : Nat) : (treeK m ws k).length ≤ 64 := treeV_len _
def tsB (m : List (List UInt8)) (ws : List Wr) (L : List (List Nod)) (T : List Nod) (j q : Nat) : S := ⟨[(0, .ts 1 (encT L) 2), (1, .fn (.func 56) [] [.ptr 3 0]), (7, .d (.it .i64 ((encT L).length : Nat))), (8, .d (.it .i64 (q : Nat)))],
 [(5, .frame 10 []), (4, .frame 43 [(1, .ptr 0 0), (6, .ts 1 (encT L) 2), (9, .ptr 3 0), (18, .d (.fs 1 (numK ws (cpw ws.length)))), (19, .d (.it .i64 ((numK ws (cpw ws.length)).length : Nat))), (20, .d (.it .i64 (j : Nat)))]), (3, .cells 1 [.d (.fs 3 (T.map encN))]), (0, .cells 2 ((encSt m ws).map .d)), (2, .tail 62 true)], 6⟩
theorem tsA_to {m : List (List UInt8)} {ws : List Wr} {l : List (List D)} {t : Nat} {N : Nat} {σ : S} (h : encT (trT m ws t) = l) (k : Wk N σ ⟨[(1, .ptr 0 0), (6, .ts 1 l 2), (18, .d (.fs 1 (numK ws (cpw ws.length)))), (19, .d (.it .i64 ((numK ws (cpw ws.length)).length : Nat))), (20, .d (.it .i64 (t : Nat)))], [(0, .cells 2 ((encSt m ws).map .d)), (2, .tail 62 true)], 3⟩) : Wk N σ (tsA m ws t) := by unfold tsA; rw [h]; exact k
set_option maxHeartbeats 16000000 in
theorem ctrees_ok (m : List (List UInt8)) (hm : ImOK m) (h : 1 ≤ m.length ∧ m.length ≤ 65) (ws : List Wr) (hw : WsOK ws) (hwl : ws.length ≤ 8) (hR : RngP m ws) : FnC Tryz.prog 21 [.dg 2 (encSt m ws)] (.tup [.d (.fs 1 (encT (trT m ws (allK ws (cpw ws.length)).length))), .d (.bl true)]) := by
 have hall := call_ok m ws hw hwl
 have hpn := cpw_le hwl
 have hkl := allK_len ws (cpw ws.length)
 have hnl := numK_len' ws (cpw ws.length)
 refine FnC.intro ti_ok Tryz.func21 rfl Tryz.ntmps21 Tryz.call21 rfl (Nat.le_of_ble_eq_true rfl) rfl ?_
 (repeat' ((conv=>whnf);first|with_reducible refine gA ?_|((with_reducible refine callE_id ?_); first | refine CallE.con ⟨_, hall, ?_⟩)|(with_reducible first|refine gB ?_|refine gZ (fun x hx hu=>?_)|refine gY (fun x hx=>?_)|refine gE ?_|refine Both.mk ?_ ?_|refine gS (fun h=>?_) (fun h=>?_)|refine Spl.nt ?_|refine Spl.mk (fun h=>?_) (fun h=>?_))))
 refine loop_ruleW ti_ok (fun j : Nat => j ≤ (allK ws (cpw ws.length)).length) (tsA m ws) (fun j => (allK ws (cpw ws.length)).length - j) 0 (Nat.zero_le _) (Wk.en ⟨And.intro rfl (And.intro rfl (And.intro rfl (And.intro rfl (And.intro rfl trivial)))), And.intro rfl (And.intro rfl trivial), rfl⟩) ?_
 intro j hj
 have htl := trT_len m ws j
 by_cases hjn : j < (allK ws (cpw ws.length)).length
 ·obtain ⟨k, hk⟩ := lt_get hjn
  obtain ⟨k1, k2⟩ := allK_at hk
  have hx := numK_at hk
  have hct := ctree_ok m hm h ws hw hwl k (by omega) k2 hR
  (repeat' ((conv=>whnf);first|with_reducible refine gA ?_|((with_reducible refine callE_id ?_); first | refine CallE.con ⟨_, hct, ?_⟩ | refine CallE.inl ?_) | with_reducible refine AtA.mk' ?_ | refine at_some hx ?_ | ((with_reducible refine callI_id ?_); first | with_reducible refine CallI.inl ti_ok i55 rfl ?_ | with_reducible refine CallI.inl ti_ok i99 rfl ?_)|(with_reducible first|refine gB ?_|refine gZ (fun x hx hu=>?_)|refine gY (fun x hx=>?_)|refine gE ?_|refine Both.mk ?_ ?_|refine gS (fun h=>?_) (fun h=>?_)|refine Spl.nt ?_|refine Spl.mk (fun h=>?_) (fun h=>?_))))
  conv => whnf
  have hsc := trT_succ (m := m) hk
  have hTl := treeK_len m ws k
  have hLm := trT_mem m ws j
  refine loop_ruleW ti_ok (fun q : Nat => q ≤ (trT m ws j).length ∧ treeK m ws k ∉ (trT m ws j).take q) (tsB m ws (trT m ws j) (treeK m ws k) j) (fun q => (trT m ws j).length - q) 0 ⟨Nat.zero_le _, by simp⟩ (Wk.enF (And.intro rfl (And.intro rfl (And.intro rfl (And.intro rfl trivial)))) (by (repeat (first | exact trivial | refine And.intro (obw_eq rfl (by with_unfolding_all exact rfl)) ?_ | refine And.intro (obw_fr (by with_unfolding_all exact rfl) (by (repeat (first | exact trivial | refine And.intro (by with_unfolding_all exact rfl) ?_)))) ?_))) rfl) ?_
  intro q ⟨hq, hno⟩
  have hel : (encT (trT m ws j)).length = (trT m ws j).length := List.length_map ..
  generalize treeK m ws k = T at *
  by_cases hqn : q < (trT m ws j).length
  ·obtain ⟨x, hxq⟩ := lt_get hqn
   have hxl : x.length ≤ 64 := by
    obtain ⟨k', e⟩ := hLm x (List.mem_of_getElem? hxq)
    rw [e]; exact treeK_len m ws k'
   have hxe : (encT (trT m ws j))[q]? = some [.fs 3 (x.map encN)] := by unfold encT; rw [List.getElem?_map, hxq]; rfl
   have heq := eqNs_ok x T (by omega)
   unfold tsB
   generalize hLL : encT (trT m ws j) = LL at *
   by_cases hxT : x = T
   ·rw [decide_eq_true hxT] at heq
    have hin : T ∈ trT m ws j := hxT ▸ List.mem_of_getElem? hxq
    have he1 : encT (trT m ws (j + 1)) = LL := by rw [hsc]; unfold insT; rw [if_pos hin, hLL]
    (repeat' ((conv=>whnf);first|with_reducible refine gA ?_|refine at_some hxe ?_ | with_reducible refine AtA.mk' ?_ | ((with_reducible refine callE_id ?_); first | refine CallE.con ⟨_, heq, ?_⟩ | refine CallE.inl ?_) | ((with_reducible refine callI_id ?_); with_reducible refine CallI.inl ti_ok i56 rfl ?_)|(with_reducible first|refine gB ?_|refine gZ (fun x hx hu=>?_)|refine gY (fun x hx=>?_)|refine gE ?_|refine Both.mk ?_ ?_|refine gS (fun h=>?_) (fun h=>?_)|refine Spl.nt ?_|refine Spl.mk (fun h=>?_) (fun h=>?_))))
    refine ⟨j + 1, hjn, by first | omega | (dsimp only; omega), tsA_to he1 (Wk.enF (And.intro rfl (And.intro rfl (And.intro rfl (And.intro rfl (And.intro (it_eq (by omega)) trivial))))) (by (repeat (first | exact trivial | refine And.intro (obw_eq rfl (by with_unfolding_all exact rfl)) ?_ | refine And.intro (obw_fr (by with_unfolding_all exact rfl) (by (repeat (first | exact trivial | refine And.intro (by with_unfolding_all exact rfl) ?_)))) ?_))) rfl)⟩
   ·rw [decide_eq_false hxT] at heq
    (repeat' ((conv=>whnf);first|with_reducible refine gA ?_|refine at_some hxe ?_ | with_reducible refine AtA.mk' ?_ | ((with_reducible refine callE_id ?_); first | refine CallE.con ⟨_, heq, ?_⟩ | refine CallE.inl ?_) | ((with_reducible refine callI_id ?_); with_reducible refine CallI.inl ti_ok i56 rfl ?_)|(with_reducible first|refine gB ?_|refine gZ (fun x hx hu=>?_)|refine gY (fun x hx=>?_)|refine gE ?_|refine Both.mk ?_ ?_|refine gS (fun h=>?_) (fun h=>?_)|refine Spl.nt ?_|refine Spl.mk (fun h=>?_) (fun h=>?_))))
    refine ⟨q + 1, ⟨hqn, ?_⟩, by first | omega | (dsimp only; omega), Wk.enF (And.intro rfl (And.intro rfl (And.intro rfl (And.intro (it_eq (by omega)) trivial)))) (by (repeat (first | exact trivial | refine And.intro (obw_eq rfl (by with_unfolding_all exact rfl)) ?_ | refine And.intro (obw_fr (by with_unfolding_all exact rfl) (by (repeat (first | exact trivial | refine And.intro (by with_unfolding_all exact rfl) ?_)))) ?_))) rfl⟩
    rw [take_snoc hxq]
    intro hmem
    rcases List.mem_append.1 hmem with hmem | hmem
    ·exact hno hmem
    ·exact hxT (List.mem_singleton.1 hmem).symm
  ·have hnot : T ∉ trT m ws j := by rwa [show (trT m ws j).take q = trT m ws j by rw [List.take_of_length_le (by omega)]] at hno
   have he1 : encT (trT m ws (j + 1)) = encT (trT m ws j) ++ [[.fs 3 (T.map encN)]] := by rw [hsc]; unfold insT; rw [if_neg hnot]; unfold encT; rw [List.map_append]; rfl
   unfold tsB
   generalize hLL : encT (trT m ws j) = LL at *
   (repeat' ((conv=>whnf);first|with_reducible refine gA ?_|with_reducible refine AtA.mk' ?_|(with_reducible first|refine gB ?_|refine gZ (fun x hx hu=>?_)|refine gY (fun x hx=>?_)|refine gE ?_|refine Both.mk ?_ ?_|refine gS (fun h=>?_) (fun h=>?_)|refine Spl.nt ?_|refine Spl.mk (fun h=>?_) (fun h=>?_))))
   refine ⟨j + 1, hjn, by first | omega | (dsimp only; omega), tsA_to he1 (Wk.enF (And.intro rfl (And.intro rfl (And.intro rfl (And.intro rfl (And.intro (it_eq (by omega)) trivial))))) (by (repeat (first | exact trivial | refine And.intro (obw_eq rfl (by with_unfolding_all exact rfl)) ?_ | refine And.intro (obw_fr (by with_unfolding_all exact rfl) (by (repeat (first | exact trivial | refine And.intro (by with_unfolding_all exact rfl) ?_)))) ?_))) rfl)⟩
 ·have hje : j = (allK ws (cpw ws.length)).length := by omega
  subst hje
  (repeat' ((conv=>whnf);first|with_reducible refine gA ?_|(with_reducible first|refine gB ?_|refine gZ (fun x hx hu=>?_)|refine gY (fun x hx=>?_)|refine gE ?_|refine Both.mk ?_ ?_|refine gS (fun h=>?_) (fun h=>?_)|refine Spl.nt ?_|refine Spl.mk (fun h=>?_) (fun h=>?_))))
  rfl
end Go.Proofs.YthknbpijaoljgaaGreatDoor
namespace Go.Proofs.YthknbpijaoljgaaGreatDoor
open Go.Sy
def OkSt (m : List (List UInt8)) (ws : List Wr) : Prop := (1 ≤ m.length ∧ m.length ≤ 65) ∧ RngP m ws ∧ ws.length ≤ 8
instance (m : List (List UInt8)) (ws : List Wr) : Decidable (OkSt m ws) := by unfold OkSt; infer_instance
def trsR (m : List (List UInt8)) (ws : List Wr) : List (List Nod) := if OkSt m ws then trT m ws (allK ws (cpw ws.length)).length else []
theorem alw_zero (es : List Int) : AlwP es 0 := fun i hi j hj hd => by
 unfold dg at hd
 simp at hd
theorem allK_pos (ws : List Wr) (h : ws.length ≤ 8) : 0 < (allK ws (cpw ws.length)).length := by
 have h0 : 0 ∈ allK ws (cpw ws.length) := by
  unfold allK
  refine List.mem_filter.2 ⟨List.mem_range.2 ?_, decide_eq_true (alw_zero _)⟩
  have := cpw_le h
  omega
 exact List.length_pos_of_mem h0
theorem and_idH {A B : Prop} (h : A ∧ B) : A ∧ B := h
theorem at_first {l : List (List D)} {x : List D} {K : List D → Prop} (hx : l[0]? = some x) (h : K x) : (0 ≤ (0 : Int) ∧ (0 : Int) < l.length) ∧ ∀ c, l[(0 : Int).toNat]? = some c → K c :=
 ⟨⟨by decide, by have := (List.getElem?_eq_some_iff.1 hx).1; omega⟩, fun c hc => by have e : some x = some c := hx.symm.trans hc; rw [← Option.some.inj e]; exact h⟩
set_option maxHeartbeats 8000000 in
theorem ctrees_no (m : List (List UInt8)) (hm : ImOK m) (hml : m.length ≤ 1000) (ws : List Wr) (hw : WsOK ws) (h : ¬ OkSt m ws) : FnC Tryz.prog 21 [.dg 2 (encSt m ws)] (.tup [.d (.fs 1 []), .d (.bl false)]) := by
 by_cases hwl : ws.length ≤ 8
 ·have hall := call_ok m ws hw hwl
  have hpn := cpw_le hwl
  have hpos := allK_pos ws hwl
  have hnl := numK_len' ws (cpw ws.length)
  obtain ⟨k, hk⟩ := lt_get hpos
  obtain ⟨k1, k2⟩ := allK_at hk
  have hx := numK_at hk
  have hct : FnC Tryz.prog 54 [.dg 2 (encSt m ws), .d (.it .u64 (nthR k ws.length : Nat))] (.tup [.d (.fs 3 []), .d (.bl false)]) := by
   by_cases hR : RngP m ws
   ·by_cases hb : 65 < m.length
    ·exact ctree_big m hm hml hb ws hw hwl k (by omega) k2 hR
    ·have h0 : m = [] := by
      cases m with
      | nil => rfl
      | cons a t => exact absurd ⟨⟨by simp, by omega⟩, hR, hwl⟩ h
     subst h0
     have hws : ws = [] := by
      cases ws with
      | nil => rfl
      | cons w t => have := hR w List.mem_cons_self; simp at this; omega
     subst hws
     exact ctree_nil
   ·exact ctree_rng m ws hw hwl k (by omega) hR
  generalize numK ws (cpw ws.length) = LK at *
  refine FnC.intro ti_ok Tryz.func21 rfl Tryz.ntmps21 Tryz.call21 rfl (Nat.le_of_ble_eq_true rfl) rfl ?_
  (repeat' ((conv=>whnf);first|with_reducible refine gA ?_|((with_reducible refine callE_id ?_); first | refine CallE.con ⟨_, hall, ?_⟩ | refine CallE.con ⟨_, hct, ?_⟩) | with_reducible refine LoopS.unroll ti_ok 1 ?_ | ((with_reducible refine and_idH ?_); refine at_first hx ?_)|(with_reducible first|refine gB ?_|refine gZ (fun x hx hu=>?_)|refine gY (fun x hx=>?_)|refine gE ?_|refine Both.mk ?_ ?_|refine gS (fun h=>?_) (fun h=>?_)|refine Spl.nt ?_|refine Spl.mk (fun h=>?_) (fun h=>?_))))
  all_goals first | (exfalso; omega) | rfl
 ·have hall := call_no m ws hwl
  refine FnC.intro ti_ok Tryz.func21 rfl Tryz.ntmps21 Tryz.call21 rfl (Nat.le_of_ble_eq_true rfl) rfl ?_
  (repeat' ((conv=>whnf);first|with_reducible refine gA ?_|((with_reducible refine callE_id ?_); first | refine CallE.con ⟨_, hall, ?_⟩)|(with_reducible first|refine gB ?_|refine gZ (fun x hx hu=>?_)|refine gY (fun x hx=>?_)|refine gE ?_|refine Both.mk ?_ ?_|refine gS (fun h=>?_) (fun h=>?_)|refine Spl.nt ?_|refine Spl.mk (fun h=>?_) (fun h=>?_))))
  rfl
theorem ctreesR_ok (m : List (List UInt8)) (hm : ImOK m) (hml : m.length ≤ 1000) (ws : List Wr) (hw : WsOK ws) : FnC Tryz.prog 21 [.dg 2 (encSt m ws)] (.tup [.d (.fs 1 (encT (trsR m ws))), .d (.bl (decide (OkSt m ws)))]) := by
 by_cases h : OkSt m ws
 ·have := ctrees_ok m hm h.1 ws hw h.2.2 h.2.1
  rw [decide_eq_true h, show trsR m ws = _ from if_pos h]
  exact this
 ·have := ctrees_no m hm hml ws hw h
  rw [decide_eq_false h, show trsR m ws = [] from if_neg h]
  exact this
end Go.Proofs.YthknbpijaoljgaaGreatDoor
namespace Go.Proofs.YthknbpijaoljgaaGreatDoor
open Go.Sy
end Go.Proofs.YthknbpijaoljgaaGreatDoor
namespace Go.Proofs.YthknbpijaoljgaaGreatDoor
open Go.Sy
def tpN : List D := [.st [], .bl false, .st []]
theorem findN : FindOK Tryz.prog 115 tpN := FindOK.struct Tryz.underlying115 (by kernel_rfl) (by kernel_rfl)
theorem likesN (x : Nod) : likes tpN (encN x) = true := rfl
theorem eqKN (x y : Nod) : eqKs (encN x) (encN y) = decide (x = y) := by
 have h := eqKs_eq (likesN x) (likesN y)
 have he : encN x = encN y ↔ x = y := by
  constructor
  ·intro e
   obtain ⟨p, d, q⟩ := x
   obtain ⟨p', d', q'⟩ := y
   unfold encN at e
   simp only [List.cons.injEq, D.st.injEq, D.bl.injEq] at e
   obtain ⟨rfl, rfl, rfl, _⟩ := e
   rfl
  ·rintro rfl; rfl
 rw [Bool.eq_iff_iff, h, he, decide_eq_true_eq]
def mpF (o : List Nod) (f : Nod → Int) : List (List D × D) := o.map fun x => (encN x, .it .i64 (f x))
theorem mpF_get (f : Nod → Int) (y : Nod) : ∀ o : List Nod, mget (mpF o f) (encN y) = if y ∈ o then some (.it .i64 (f y)) else none
 | [] => by simp [mpF, mget]
 | x :: o => by
  have ih := mpF_get f y o
  show (bif eqKs (encN x) (encN y) then some (D.it .i64 (f x)) else mget (mpF o f) (encN y)) = _
  rw [eqKN]
  by_cases h : x = y
  ·subst h; simp
  ·rw [decide_eq_false h, cond_false, ih]
   simp only [List.mem_cons, show ¬ y = x from fun e => h e.symm, false_or]
theorem mpF_put (f g : Nod → Int) (y : Nod) : ∀ o : List Nod, o.Nodup → y ∈ o → (∀ x, x ≠ y → g x = f x) → kput (mpF o f) (kidx (mpF o f) (encN y)) (.it .i64 (g y)) = mpF o g ∧ kidx (mpF o f) (encN y) < o.length
 | [], _, h, _ => by cases h
 | x :: o, hn, h, hg => by
  have hnx := (List.nodup_cons.1 hn).1
  show kput ((encN x, D.it .i64 (f x)) :: mpF o f) (bif eqKs (encN x) (encN y) then 0 else kidx (mpF o f) (encN y) + 1) _ = _ ∧ (bif eqKs (encN x) (encN y) then 0 else kidx (mpF o f) (encN y) + 1) < _
  rw [eqKN]
  by_cases hxy : x = y
  ·subst hxy
   rw [decide_eq_true rfl, cond_true]
   refine ⟨?_, by simp⟩
   show (encN x, D.it .i64 (g x)) :: mpF o f = (encN x, D.it .i64 (g x)) :: mpF o g
   congr 1
   unfold mpF
   refine List.map_congr_left fun z hz => ?_
   rw [hg z (fun e => hnx (e ▸ hz))]
  ·rw [decide_eq_false hxy, cond_false]
   have hyo : y ∈ o := by
    rcases List.mem_cons.1 h with h | h
    ·exact absurd h.symm hxy
    ·exact h
   obtain ⟨i1, i2⟩ := mpF_put f g y o (List.nodup_cons.1 hn).2 hyo hg
   refine ⟨?_, by simp; omega⟩
   show (encN x, D.it .i64 (f x)) :: kput (mpF o f) (kidx (mpF o f) (encN y)) _ = (encN x, D.it .i64 (g x)) :: mpF o g
   rw [i1, hg x hxy]
def ordN (xs : List Nod) : List Nod := xs.foldl insT []
theorem ordN_snoc (xs : List Nod) (x : Nod) : ordN (xs ++ [x]) = insT (ordN xs) x := by unfold ordN; rw [List.foldl_append]; rfl
theorem ordN_mem (x : Nod) : ∀ {n : Nat} (xs : List Nod), xs.length = n → (x ∈ ordN xs ↔ x ∈ xs)
 | 0, xs, h => by rw [List.length_eq_zero_iff.1 h]; exact Iff.rfl
 | n + 1, xs, h => by
  have hne : xs ≠ [] := fun e => by rw [e] at h; cases h
  obtain ⟨t, y, rfl⟩ : ∃ t y, xs = t ++ [y] := ⟨xs.dropLast, xs.getLast hne, (List.dropLast_concat_getLast hne).symm⟩
  have ih := ordN_mem x t (by simpa using h)
  rw [ordN_snoc, insT_mem, ih]
  simp
theorem insT_nodup {l : List Nod} (h : l.Nodup) (x : Nod) : (insT l x).Nodup := by
 unfold insT
 split
 ·exact h
 ·rename_i hx
  rw [List.nodup_append]
  refine ⟨h, by simp, fun a ha b hb => ?_⟩
  rw [List.mem_singleton.1 hb]
  rintro rfl
  exact hx ha
theorem ordN_nodup : ∀ {n : Nat} (xs : List Nod), xs.length = n → (ordN xs).Nodup
 | 0, xs, h => by rw [List.length_eq_zero_iff.1 h]; exact List.nodup_nil
 | n + 1, xs, h => by
  have hne : xs ≠ [] := fun e => by rw [e] at h; cases h
  obtain ⟨t, y, rfl⟩ : ∃ t y, xs = t ++ [y] := ⟨xs.dropLast, xs.getLast hne, (List.dropLast_concat_getLast hne).symm⟩
  rw [ordN_snoc]
  exact insT_nodup (ordN_nodup t (by simpa using h)) y
theorem ordN_len : ∀ {n : Nat} (xs : List Nod), xs.length = n → (ordN xs).length ≤ n
 | 0, xs, h => by rw [List.length_eq_zero_iff.1 h]; exact Nat.le_refl _
 | n + 1, xs, h => by
  have hne : xs ≠ [] := fun e => by rw [e] at h; cases h
  obtain ⟨t, y, rfl⟩ : ∃ t y, xs = t ++ [y] := ⟨xs.dropLast, xs.getLast hne, (List.dropLast_concat_getLast hne).symm⟩
  have ih := ordN_len t (by simpa using h)
  rw [ordN_snoc]
  unfold insT
  split
  ·omega
  ·rw [List.length_append, List.length_singleton]; omega
def mpN (xs : List Nod) : List (List D × D) := mpF (ordN xs) fun x => (xs.count x : Nat)
theorem mpN_get (xs : List Nod) (y : Nod) : (match mget (mpN xs) (encN y) with | some v => v | none => .it .i64 0) = D.it .i64 (xs.count y : Nat) := by
 unfold mpN
 rw [mpF_get]
 by_cases h : y ∈ xs
 ·rw [if_pos ((ordN_mem y xs rfl).2 h)]
 ·rw [if_neg (fun q => h ((ordN_mem y xs rfl).1 q)), List.count_eq_zero.2 h]; rfl
theorem mpN_up (xs : List Nod) (y : Nod) : kput (kadd (mpN xs) (encN y) (.it .i64 0)) (kidx (mpN xs) (encN y)) (.it .i64 ((xs.count y : Nat) + 1)) = mpN (xs ++ [y]) ∧ kidx (mpN xs) (encN y) < (kadd (mpN xs) (encN y) (.it .i64 0)).length := by
 have hn := ordN_nodup xs rfl
 have hg : ∀ x, x ≠ y → (((xs ++ [y]).count x : Nat) : Int) = (xs.count x : Nat) := fun x hx => by
  rw [List.count_append, List.count_singleton]
  have : (y == x) = false := by simpa using fun e => hx e.symm
  rw [this]; simp
 have hy : (((xs ++ [y]).count y : Nat) : Int) = (xs.count y : Nat) + 1 := by
  rw [List.count_append, List.count_singleton]; simp
 by_cases h : y ∈ xs
 ·have ho := (ordN_mem y xs rfl).2 h
  have hk : kadd (mpN xs) (encN y) (.it .i64 0) = mpN xs := by
   unfold kadd mpN
   rw [mpF_get, if_pos ho]
  rw [hk]
  have := mpF_put (fun x => (xs.count x : Nat)) (fun x => ((xs ++ [y]).count x : Nat)) y (ordN xs) hn ho hg
  rw [hy] at this
  refine ⟨?_, by unfold mpN mpF; rw [List.length_map]; exact this.2⟩
  show _ = mpF (ordN (xs ++ [y])) _
  rw [ordN_snoc, show insT (ordN xs) y = ordN xs from if_pos ho]
  exact this.1
 ·have ho : y ∉ ordN xs := fun q => h ((ordN_mem y xs rfl).1 q)
  have hk : kadd (mpN xs) (encN y) (.it .i64 0) = mpF (ordN xs ++ [y]) fun x => (xs.count x : Nat) := by
   unfold kadd mpN
   rw [mpF_get, if_neg ho]
   unfold mpF
   rw [List.map_append]
   show _ ++ [(encN y, D.it .i64 0)] = _ ++ [(encN y, D.it .i64 (xs.count y : Nat))]
   rw [List.count_eq_zero.2 h]; rfl
  have hidx : kidx (mpN xs) (encN y) = kidx (mpF (ordN xs ++ [y]) fun x => (xs.count x : Nat)) (encN y) := by
   have key : ∀ o : List Nod, y ∉ o → ∀ f : Nod → Int, kidx (mpF o f) (encN y) = kidx (mpF (o ++ [y]) f) (encN y) := by
    intro o
    induction o with
    | nil =>
     intro _ f
     show 0 = (bif eqKs (encN y) (encN y) then 0 else _)
     rw [eqKN, decide_eq_true rfl, cond_true]
    | cons z o ih =>
     intro hz f
     have h1 : ¬ z = y := fun e => hz (e ▸ List.mem_cons_self)
     show (bif eqKs (encN z) (encN y) then 0 else kidx (mpF o f) (encN y) + 1) = (bif eqKs (encN z) (encN y) then 0 else kidx (mpF (o ++ [y]) f) (encN y) + 1)
     rw [eqKN, decide_eq_false h1, cond_false, cond_false, ih (fun q => hz (List.mem_cons_of_mem _ q))]
   exact key _ ho _
  have hn2 : (ordN xs ++ [y]).Nodup := by
   have := insT_nodup hn y
   unfold insT at this
   rwa [if_neg ho] at this
  rw [hk, hidx]
  have := mpF_put (fun x => (xs.count x : Nat)) (fun x => ((xs ++ [y]).count x : Nat)) y (ordN xs ++ [y]) hn2 (by simp) hg
  rw [hy] at this
  refine ⟨?_, by unfold mpF; rw [List.length_map]; exact this.2⟩
  show _ = mpF (ordN (xs ++ [y])) _
  rw [ordN_snoc, show insT (ordN xs) y = ordN xs ++ [y] from if_neg ho]
  exact this.1
end Go.Proofs.YthknbpijaoljgaaGreatDoor
namespace Go.Proofs.YthknbpijaoljgaaGreatDoor
open Go.Sy
theorem draw9_id {P : Program} {ti : Nat → Option Ty} {N : Nat} {ops : List Oper} {σ : S} {K : S → Prop} (h : DrawS P ti N 9 ops σ K) : DrawS P ti N 9 ops σ K := h
theorem wk_idC {N : Nat} {σ τ : S} (h : Wk N σ τ) : Wk N σ τ := h
theorem mpN_get2 (xs : List Nod) (y : Nod) : (match mget (kadd (mpN xs) (encN y) (.it .i64 0)) (encN y) with | some v => v | none => .it .i64 0) = D.it .i64 (xs.count y : Nat) := by
 have h := mpN_get xs y
 unfold kadd
 cases hq : mget (mpN xs) (encN y) with
 | some v => rw [hq] at h; dsimp only; rw [hq]; exact h
 | none =>
  rw [hq] at h
  dsimp only
  have key : ∀ l : List (List D × D), mget l (encN y) = none → mget (l ++ [(encN y, D.it .i64 0)]) (encN y) = some (D.it .i64 0) := by
   intro l
   induction l with
   | nil =>
    intro _
    show (bif eqKs (encN y) (encN y) then some (D.it .i64 0) else none) = _
    rw [eqKN, decide_eq_true rfl]; rfl
   | cons p l ih =>
    intro hl
    obtain ⟨k, v⟩ := p
    simp only [mget] at hl
    cases hk : eqKs k (encN y) with
    | true => rw [hk, cond_true] at hl; cases hl
    | false =>
     rw [hk, cond_false] at hl
     show (bif eqKs k (encN y) then some v else mget (l ++ _) (encN y)) = _
     rw [hk, cond_false]
     exact ih hl
  rw [key _ hq]
  exact h
theorem flat_len {L : List (List Nod)} (h : ∀ t ∈ L, t.length ≤ 64) : L.flatten.length ≤ L.length * 64 := by
 induction L with
 | nil => simp
 | cons t L ih =>
  have h1 := h t List.mem_cons_self
  have h2 := ih fun u hu => h u (List.mem_cons_of_mem _ hu)
  rw [List.flatten_cons, List.length_append, List.length_cons, Nat.add_mul]; omega
def coA (LL : List (List D)) (xs : List Nod) (i : Nat) : S := ⟨[(4, .mp 2), (5, .ts 3 ((ordN xs).map encN) 3), (11, .d (.fs 1 LL)), (12, .d (.it .i64 (LL.length : Nat))), (13, .d (.it .i64 (i : Nat)))], [(2, .mp true true tpN (mpN xs)), (3, .tail 115 true), (0, .frame 1 [])], 4⟩
def coM (MP : List (List D × D)) (LL : List (List D)) (x : List D) (O : List (List D)) (tl i q : Nat) (TT : List (List D)) : S := ⟨[(9, .ptr 4 0), (4, .mp 2), (5, .ts 3 O 3), (11, .d (.fs 1 LL)), (12, .d (.it .i64 (LL.length : Nat))), (13, .d (.it .i64 (i : Nat))), (17, .d (.fs 3 TT)), (18, .d (.it .i64 (tl : Nat))), (19, .d (.it .i64 (q : Nat)))], [(4, .cells 3 (x.map .d)), (2, .mp true true tpN MP), (3, .tail 115 true), (0, .frame 1 [])], 6⟩
def coB (LL : List (List D)) (T : List Nod) (xs : List Nod) (i q : Nat) : S := ⟨[(4, .mp 2), (5, .ts 3 ((ordN xs).map encN) 3), (11, .d (.fs 1 LL)), (12, .d (.it .i64 (LL.length : Nat))), (13, .d (.it .i64 (i : Nat))), (17, .d (.fs 3 (T.map encN))), (18, .d (.it .i64 (T.length : Nat))), (19, .d (.it .i64 (q : Nat)))], [(2, .mp true true tpN (mpN xs)), (3, .tail 115 true), (0, .frame 1 [])], 4⟩
theorem coB_to {LL : List (List D)} {T xs ys : List Nod} {i q : Nat} {N : Nat} {σ : S} (h : ys = xs) (k : Wk N σ (coB LL T xs i q)) : Wk N σ (coB LL T ys i q) := by rw [h]; exact k
set_option maxHeartbeats 16000000 in
theorem counted_ok (L : List (List Nod)) (hL : L.length ≤ 1000) (hT : ∀ t ∈ L, t.length ≤ 64) : FnH Tryz.prog 61 [.d (.fs 1 (encT L))] [] 0 [] (.tup [.mp 2, .d (.fs 3 ((ordN L.flatten).map encN))]) [(2, .mp true true tpN (mpN L.flatten))] 4 := by
 have hll : (encT L).length = L.length := List.length_map ..
 refine FnH.intro ti_ok Tryz.func61 rfl Tryz.ntmps61 Tryz.call61 rfl rfl rfl (Nat.zero_le _) rfl rfl rfl rfl rfl (fun T => ?_)
 (repeat' ((conv=>whnf);first|with_reducible refine gA ?_|((with_reducible refine opX_id ?_); refine OpX.makeMap true tpN rfl rfl ?_)|(with_reducible first|refine gB ?_|refine gZ (fun x hx hu=>?_)|refine gY (fun x hx=>?_)|refine gE ?_|refine Both.mk ?_ ?_|refine gS (fun h=>?_) (fun h=>?_)|refine Spl.nt ?_|refine Spl.mk (fun h=>?_) (fun h=>?_))))
 conv => whnf
 refine loop_ruleW ti_ok (fun i : Nat => i ≤ L.length) (fun i => coA (encT L) (L.take i).flatten i) (fun i => L.length - i) 0 (Nat.zero_le _) (Wk.en ⟨And.intro rfl (And.intro rfl (And.intro rfl (And.intro rfl (And.intro rfl trivial)))), And.intro rfl (And.intro rfl (And.intro rfl trivial)), rfl⟩) ?_
 intro i hi
 by_cases hil : i < L.length
 ·obtain ⟨t, ht⟩ := lt_get hil
  have htl := hT t (List.mem_of_getElem? ht)
  have hte : (encT L)[i]? = some [.fs 3 (t.map encN)] := by unfold encT; rw [List.getElem?_map, ht]; rfl
  have htn : (t.map encN).length = t.length := List.length_map ..
  have hfl : (L.take (i + 1)).flatten = (L.take i).flatten ++ t := by rw [take_snoc ht, List.flatten_append]; simp
  have hxl : (L.take i).flatten.length ≤ 64000 := by
   have h1 := flat_len (L := L.take i) fun u hu => hT u (List.mem_of_mem_take hu)
   rw [List.length_take] at h1
   have : min i L.length ≤ 1000 := by omega
   omega
  generalize (L.take i).flatten = xs at *
  generalize encT L = LL at *
  unfold coA
  (repeat' ((conv=>whnf);first|with_reducible refine gA ?_|refine at_some hte ?_|(with_reducible first|refine gB ?_|refine gZ (fun x hx hu=>?_)|refine gY (fun x hx=>?_)|refine gE ?_|refine Both.mk ?_ ?_|refine gS (fun h=>?_) (fun h=>?_)|refine Spl.nt ?_|refine Spl.mk (fun h=>?_) (fun h=>?_))))
  conv => whnf
  refine loop_ruleW ti_ok (fun q : Nat => q ≤ t.length) (fun q => coB LL t (xs ++ t.take q) i q) (fun q => t.length - q) 0 (Nat.zero_le _) (coB_to (xs := xs) (by simp) (Wk.en ⟨And.intro rfl (And.intro rfl (And.intro rfl (And.intro rfl (And.intro rfl (And.intro rfl (And.intro (it_eq (by rw [htn])) (And.intro rfl trivial))))))), And.intro rfl (And.intro rfl (And.intro rfl trivial)), rfl⟩)) ?_
  intro q hq
  by_cases hqt : q < t.length
  ·obtain ⟨x, hx⟩ := lt_get hqt
   have hsn : xs ++ t.take (q + 1) = (xs ++ t.take q) ++ [x] := by rw [take_snoc hx, List.append_assoc]
   have hyl : (xs ++ t.take q).length ≤ 100000 := by
    rw [List.length_append, List.length_take]; omega
   generalize xs ++ t.take q = ys at *
   have hg := mpN_get ys x
   have hg2 := mpN_get2 ys x
   obtain ⟨hup, hlt⟩ := mpN_up ys x
   have hg3 := mpN_get (ys ++ [x]) x
   have hc1 : (((ys ++ [x]).count x : Nat) : Int) = (ys.count x : Nat) + 1 := by rw [List.count_append, List.count_singleton]; simp
   rw [hc1] at hg3
   have hcl : ys.count x ≤ 100000 := Nat.le_trans List.count_le_length hyl
   have hord := ordN_snoc ys x
   have hmem : x ∈ ordN ys ↔ 0 < ys.count x := by rw [ordN_mem x ys rfl, List.count_pos_iff]
   have hol := ordN_len ys rfl
   have hoe : ((ordN ys).map encN).length = (ordN ys).length := List.length_map ..
   have hfold : coB LL t ys i q = ⟨[(4, .mp 2), (5, .ts 3 ((ordN ys).map encN) 3), (11, .d (.fs 1 LL)), (12, .d (.it .i64 (LL.length : Nat))), (13, .d (.it .i64 (i : Nat))), (17, .d (.fs 3 (t.map encN))), (18, .d (.it .i64 (t.length : Nat))), (19, .d (.it .i64 (q : Nat)))], [(2, .mp true true tpN (mpN ys)), (3, .tail 115 true), (0, .frame 1 [])], 4⟩ := rfl
   have hto : ∀ {N : Nat} {σ : S} {l : List (List D)}, (ordN (ys ++ [x])).map encN = l → Wk N σ ⟨[(4, .mp 2), (5, .ts 3 l 3), (11, .d (.fs 1 LL)), (12, .d (.it .i64 (LL.length : Nat))), (13, .d (.it .i64 (i : Nat))), (17, .d (.fs 3 (t.map encN))), (18, .d (.it .i64 (t.length : Nat))), (19, .d (.it .i64 ((q + 1 : Nat) : Int)))], [(2, .mp true true tpN (mpN (ys ++ [x]))), (3, .tail 115 true), (0, .frame 1 [])], 4⟩ → Wk N σ (coB LL t (xs ++ t.take (q + 1)) i (q + 1)) := fun h k => by rw [hsn]; unfold coB; rw [h]; exact k
   rw [hfold]
   generalize mpN ys = MP at *
   generalize mpN (ys ++ [x]) = MP2 at *
   generalize ys.count x = c at *
   generalize hO : (ordN ys).map encN = O at *
   clear hfold
   (repeat' ((conv=>whnf);first|with_reducible refine gA ?_|((with_reducible refine draw9_id ?_); refine DrawS.mid (coM MP2 LL (encN x) O t.length i q (t.map encN)) (draw_all ti_ok mixed [0] (by decide +kernel) ?_) ?_) | with_reducible exact trivial | with_reducible refine Br.mk ?_ ?_ | ((with_reducible refine wk_idC ?_); exact Wk.en ⟨And.intro rfl (And.intro rfl (And.intro rfl (And.intro rfl (And.intro rfl (And.intro rfl (And.intro rfl (And.intro rfl (And.intro rfl trivial)))))))), And.intro rfl (And.intro rfl (And.intro rfl (And.intro rfl trivial))), rfl⟩) | ((with_reducible refine opX_id ?_); first | refine OpX.lookupA (kk := 3) (kx := encN x) (l := MP) rfl rfl Tryz.underlying125 findN (fun w => Tryz.zeroValue3 w) (fun F => .it _ _) rfl rfl rfl (likesN x) hg ?_ | refine OpX.lookupA (kk := 3) (kx := encN x) (l := kadd MP (encN x) (.it .i64 0)) rfl rfl Tryz.underlying125 findN (fun w => Tryz.zeroValue3 w) (fun F => .it _ _) rfl rfl rfl (likesN x) hg2 ?_ | refine OpX.lookupA (kk := 3) (kx := encN x) (l := MP2) rfl rfl Tryz.underlying125 findN (fun w => Tryz.zeroValue3 w) (fun F => .it _ _) rfl rfl rfl (likesN x) hg3 ?_ | refine OpX.mapEntryA (kk := 3) (kx := encN x) (l := MP) rfl rfl Tryz.underlying125 findN (fun w => Tryz.zeroValue3 w) (fun F => .it _ _) rfl rfl rfl (likesN x) hg rfl ?_ | refine OpX.entryStoreA (i := kidx MP (encN x)) (vx := .it .i64 ((c : Nat) + 1)) rfl rfl rfl rfl rfl hlt rfl hup ?_) | with_reducible refine at_hm hx ?_ | with_reducible refine AtA.mk' ?_|(with_reducible first|refine gB0 ?_|refine gZ (fun x hx hu=>?_)|refine gY (fun x hx=>?_)|refine gE ?_|refine Both.mk ?_ ?_|refine gS (fun h=>?_) (fun h=>?_)|refine Spl.nt ?_|refine Spl.mk (fun h=>?_) (fun h=>?_))))
   ·have hni : x ∉ ordN ys := fun hm => by have := hmem.1 hm; omega
    have e1 : (ordN (ys ++ [x])).map encN = O ++ [encN x] := by rw [hord, show insT (ordN ys) x = ordN ys ++ [x] from if_neg hni, List.map_append, hO]; rfl
    exact ⟨q + 1, hqt, by first | omega | (dsimp only; omega), hto e1 (Wk.en ⟨And.intro rfl (And.intro rfl (And.intro rfl (And.intro rfl (And.intro rfl (And.intro rfl (And.intro rfl (And.intro (it_eq (by omega)) trivial))))))), And.intro rfl (And.intro rfl (And.intro rfl trivial)), rfl⟩)⟩
   ·have hni : x ∈ ordN ys := hmem.2 (by omega)
    have e1 : (ordN (ys ++ [x])).map encN = O := by rw [hord, show insT (ordN ys) x = ordN ys from if_pos hni, hO]
    exact ⟨q + 1, hqt, by first | omega | (dsimp only; omega), hto e1 (Wk.en ⟨And.intro rfl (And.intro rfl (And.intro rfl (And.intro rfl (And.intro rfl (And.intro rfl (And.intro rfl (And.intro (it_eq (by omega)) trivial))))))), And.intro rfl (And.intro rfl (And.intro rfl trivial)), rfl⟩)⟩
  ·have hqe : t.take q = t := List.take_of_length_le (by omega)
   rw [hqe, ← hfl]
   unfold coB
   (repeat' ((conv=>whnf);first|with_reducible refine gA ?_|(with_reducible first|refine gB ?_|refine gZ (fun x hx hu=>?_)|refine gY (fun x hx=>?_)|refine gE ?_|refine Both.mk ?_ ?_|refine gS (fun h=>?_) (fun h=>?_)|refine Spl.nt ?_|refine Spl.mk (fun h=>?_) (fun h=>?_))))
   exact ⟨i + 1, hil, by first | omega | (dsimp only; omega), Wk.en ⟨And.intro rfl (And.intro rfl (And.intro rfl (And.intro rfl (And.intro (it_eq (by omega)) trivial)))), And.intro rfl (And.intro rfl (And.intro rfl trivial)), rfl⟩⟩
 ·have hie : i = L.length := by omega
  subst hie
  rw [List.take_length]
  unfold coA
  (repeat' ((conv=>whnf);first|with_reducible refine gA ?_|(with_reducible first|refine gB ?_|refine gZ (fun x hx hu=>?_)|refine gY (fun x hx=>?_)|refine gE ?_|refine Both.mk ?_ ?_|refine gS (fun h=>?_) (fun h=>?_)|refine Spl.nt ?_|refine Spl.mk (fun h=>?_) (fun h=>?_))))
  refine ⟨⟨[(2, .mp 2), (3, .d (.fs 3 ((ordN L.flatten).map encN)))], [(2, .mp true true tpN (mpN L.flatten)), (0, .frame 1 [])], 4⟩, Wk.vwL (And.intro (Vw.eq rfl) (And.intro (Vw.ts' rfl) trivial)) (And.intro (VwO.same _) (And.intro (VwO.same _) trivial)) rfl, rfl, And.intro rfl trivial, And.intro rfl trivial⟩
end Go.Proofs.YthknbpijaoljgaaGreatDoor
namespace Go.Proofs.YthknbpijaoljgaaGreatDoor
open Go.Sy
theorem trsR_len (m : List (List UInt8)) (ws : List Wr) : (trsR m ws).length ≤ 1000 := by
 unfold trsR
 split
 ·rename_i h
  have h1 := trT_len m ws (allK ws (cpw ws.length)).length
  have h2 := allK_len ws (cpw ws.length)
  have h3 := cpw_le h.2.2
  omega
 ·simp
theorem trsR_el (m : List (List UInt8)) (ws : List Wr) : ∀ t ∈ trsR m ws, t.length ≤ 64 := fun t ht => by
 unfold trsR at ht
 split at ht
 ·obtain ⟨k, e⟩ := trT_mem m ws _ t ht
  rw [e]; exact treeK_len m ws k
 ·cases ht
def perhR (m : List (List UInt8)) (ws : List Wr) : List Nod := ordN (trsR m ws).flatten
def sureR (m : List (List UInt8)) (ws : List Wr) : List Nod := (perhR m ws).filter fun x => decide ((trsR m ws).flatten.count x = (trsR m ws).length)
set_option maxHeartbeats 8000000 in
theorem cperh_ok (m : List (List UInt8)) (hm : ImOK m) (hml : m.length ≤ 1000) (ws : List Wr) (hw : WsOK ws) : FnC Tryz.prog 25 [.dg 2 (encSt m ws)] (.tup [.d (.fs 3 ((perhR m ws).map encN)), .d (.bl (decide (OkSt m ws)))]) := by
 have ht := ctreesR_ok m hm hml ws hw
 have hc := counted_ok (trsR m ws) (trsR_len m ws) (trsR_el m ws)
 refine FnC.intro ti_ok Tryz.func25 rfl Tryz.ntmps25 Tryz.call25 rfl (Nat.le_of_ble_eq_true rfl) rfl ?_
 (repeat' ((conv=>whnf);first|with_reducible refine gA ?_|((with_reducible refine callE_id ?_); first | refine CallE.con ⟨_, ht, ?_⟩ | refine CallE.inl ?_) | ((with_reducible refine callI_id ?_); refine CallI.byH hc [] (by with_unfolding_all exact rfl) ⟨rfl, by decide, by with_unfolding_all exact rfl⟩ trivial (by with_unfolding_all exact rfl) (by with_unfolding_all exact rfl) ?_)|(with_reducible first|refine gB ?_|refine gZ (fun x hx hu=>?_)|refine gY (fun x hx=>?_)|refine gE ?_|refine Both.mk ?_ ?_|refine gS (fun h=>?_) (fun h=>?_)|refine Spl.nt ?_|refine Spl.mk (fun h=>?_) (fun h=>?_))))
 rfl
def csA (xs : List Nod) (b : Bool) (L : List (List D)) (O : List (List D)) (out : List (List D)) (k : Nat) : S := ⟨[(4, .d (.fs 1 L)), (5, .d (.bl b)), (6, .mp 4), (8, .ts 3 out 6), (21, .d (.fs 3 O)), (22, .d (.it .i64 (O.length : Nat))), (23, .d (.it .i64 (k : Nat)))], [(4, .mp true true tpN (mpN xs)), (6, .tail 115 true)], 7⟩
set_option maxHeartbeats 16000000 in
theorem csure_ok (m : List (List UInt8)) (hm : ImOK m) (hml : m.length ≤ 1000) (ws : List Wr) (hw : WsOK ws) : FnC Tryz.prog 23 [.dg 2 (encSt m ws)] (.tup [.d (.fs 3 ((sureR m ws).map encN)), .d (.bl (decide (OkSt m ws)))]) := by
 have ht := ctreesR_ok m hm hml ws hw
 have hc := counted_ok (trsR m ws) (trsR_len m ws) (trsR_el m ws)
 have hll : (encT (trsR m ws)).length = (trsR m ws).length := List.length_map ..
 have hl1 := trsR_len m ws
 have hol : ((ordN (trsR m ws).flatten).map encN).length = (ordN (trsR m ws).flatten).length := List.length_map ..
 have hfl := flat_len (trsR_el m ws)
 have ho2 := ordN_len (trsR m ws).flatten rfl
 refine FnC.intro ti_ok Tryz.func23 rfl Tryz.ntmps23 Tryz.call23 rfl (Nat.le_of_ble_eq_true rfl) rfl ?_
 (repeat' ((conv=>whnf);first|with_reducible refine gA ?_|((with_reducible refine callE_id ?_); first | refine CallE.con ⟨_, ht, ?_⟩ | refine CallE.inl ?_) | ((with_reducible refine callI_id ?_); refine CallI.byH hc [] (by with_unfolding_all exact rfl) ⟨rfl, by decide, by with_unfolding_all exact rfl⟩ trivial (by with_unfolding_all exact rfl) (by with_unfolding_all exact rfl) ?_)|(with_reducible first|refine gB ?_|refine gZ (fun x hx hu=>?_)|refine gY (fun x hx=>?_)|refine gE ?_|refine Both.mk ?_ ?_|refine gS (fun h=>?_) (fun h=>?_)|refine Spl.nt ?_|refine Spl.mk (fun h=>?_) (fun h=>?_))))
 conv => whnf
 have hsu : sureR m ws = (ordN (trsR m ws).flatten).filter fun x => decide ((trsR m ws).flatten.count x = (trsR m ws).length) := rfl
 generalize sureR m ws = R at *
 generalize decide (OkSt m ws) = b at *
 generalize (trsR m ws).flatten = xs at *
 generalize hLn : (trsR m ws).length = n at *
 generalize encT (trsR m ws) = L at *
 refine loop_ruleW ti_ok (fun k : Nat => k ≤ (ordN xs).length) (fun k => csA xs b L ((ordN xs).map encN) ((((ordN xs).take k).filter fun x => decide (xs.count x = n)).map encN) k) (fun k => (ordN xs).length - k) 0 (Nat.zero_le _) (Wk.en ⟨And.intro rfl (And.intro rfl (And.intro rfl (And.intro rfl (And.intro rfl (And.intro rfl (And.intro rfl trivial)))))), And.intro rfl (And.intro rfl trivial), rfl⟩) ?_
 intro k hk
 by_cases hkl : k < (ordN xs).length
 ·obtain ⟨x, hx⟩ := lt_get hkl
  have hxe : ((ordN xs).map encN)[k]? = some (encN x) := by rw [List.getElem?_map, hx]; rfl
  have hg := mpN_get xs x
  have hts : ((ordN xs).take (k + 1)).filter (fun x => decide (xs.count x = n)) = ((ordN xs).take k).filter (fun x => decide (xs.count x = n)) ++ (if xs.count x = n then [x] else []) := by
   rw [take_snoc hx, List.filter_append]
   congr 1
   by_cases h : xs.count x = n
   ·simp [h]
   ·simp [h]
  have hcl : xs.count x ≤ 100000 := Nat.le_trans List.count_le_length (by omega)
  have hol2 : (((ordN xs).take k).filter (fun x => decide (xs.count x = n))).length ≤ 64000 := by
   have h1 := List.length_filter_le (fun x => decide (xs.count x = n)) ((ordN xs).take k)
   rw [List.length_take] at h1
   omega
  generalize ((ordN xs).take k).filter (fun x => decide (xs.count x = n)) = out at *
  have hto : ∀ {N : Nat} {σ : S} {l : List (List D)}, (((ordN xs).take (k + 1)).filter (fun x => decide (xs.count x = n))).map encN = l → Wk N σ (csA xs b L ((ordN xs).map encN) l (k + 1)) → Wk N σ (csA xs b L ((ordN xs).map encN) ((((ordN xs).take (k + 1)).filter fun x => decide (xs.count x = n)).map encN) (k + 1)) := fun h q => by rw [h]; exact q
  have hol1 : (out.map encN).length = out.length := List.length_map ..
  generalize hO : (ordN xs).map encN = O at *
  unfold csA
  generalize xs.count x = c at *
  (repeat' ((conv=>whnf);first|with_reducible refine gA ?_|((with_reducible refine opX_id ?_); first | refine OpX.lookupA (kk := 3) (kx := encN x) (l := mpN xs) rfl rfl Tryz.underlying125 findN (fun w => Tryz.zeroValue3 w) (fun F => .it _ _) rfl rfl rfl (likesN x) hg ?_) | with_reducible refine AtA.mk' ?_ | refine at_some hxe ?_|(with_reducible first|refine gB ?_|refine gZ (fun x hx hu=>?_)|refine gY (fun x hx=>?_)|refine gE ?_|refine Both.mk ?_ ?_|refine gS (fun h=>?_) (fun h=>?_)|refine Spl.nt ?_|refine Spl.mk (fun h=>?_) (fun h=>?_))))
  ·have e1 : (((ordN xs).take (k + 1)).filter (fun x => decide (xs.count x = n))).map encN = out.map encN ++ [encN x] := by rw [hts, if_pos (by omega), List.map_append]; rfl
   exact ⟨k + 1, hkl, by first | omega | (dsimp only; omega), hto e1 (Wk.en ⟨And.intro rfl (And.intro rfl (And.intro rfl (And.intro rfl (And.intro rfl (And.intro rfl (And.intro (it_eq (by omega)) trivial)))))), And.intro rfl (And.intro rfl trivial), rfl⟩)⟩
  ·have e1 : (((ordN xs).take (k + 1)).filter (fun x => decide (xs.count x = n))).map encN = out.map encN := by rw [hts, if_neg (by omega), List.append_nil]
   exact ⟨k + 1, hkl, by first | omega | (dsimp only; omega), hto e1 (Wk.en ⟨And.intro rfl (And.intro rfl (And.intro rfl (And.intro rfl (And.intro rfl (And.intro rfl (And.intro (it_eq (by omega)) trivial)))))), And.intro rfl (And.intro rfl trivial), rfl⟩)⟩
 ·have hke : (ordN xs).take k = ordN xs := List.take_of_length_le (by omega)
  rw [hke, ← hsu]
  unfold csA
  (repeat' ((conv=>whnf);first|with_reducible refine gA ?_|(with_reducible first|refine gB ?_|refine gZ (fun x hx hu=>?_)|refine gY (fun x hx=>?_)|refine gE ?_|refine Both.mk ?_ ?_|refine gS (fun h=>?_) (fun h=>?_)|refine Spl.nt ?_|refine Spl.mk (fun h=>?_) (fun h=>?_))))
  rfl
end Go.Proofs.YthknbpijaoljgaaGreatDoor
namespace Go.Proofs.YthknbpijaoljgaaGreatDoor
open Go.Sy
end Go.Proofs.YthknbpijaoljgaaGreatDoor
namespace Go.Proofs.YthknbpijaoljgaaGreatDoor
open Go.Sy
theorem foldT_mem {α : Type} [DecidableEq α] (x : α) : ∀ (l acc : List α), x ∈ l.foldl insT acc ↔ x ∈ acc ∨ x ∈ l
 | [], acc => by simp
 | a :: l, acc => by
  rw [List.foldl_cons, foldT_mem x l, insT_mem, List.mem_cons, or_assoc]
theorem trsR_in (m : List (List UInt8)) (ws : List Wr) (h : OkSt m ws) (t : List Nod) : t ∈ trsR m ws ↔ ∃ k ∈ allK ws (cpw ws.length), treeK m ws k = t := by
 rw [show trsR m ws = _ from if_pos h]
 unfold trT
 rw [foldT_mem, List.take_length, List.mem_map]
 simp
def inAll (L : List (List Nod)) (x : Nod) : Bool := L.all fun t => decide (x ∈ t)
def sureD (L : List (List Nod)) : List Nod := (L.getD 0 []).filter (inAll L)
end Go.Proofs.YthknbpijaoljgaaGreatDoor
namespace Go.Proofs.YthknbpijaoljgaaGreatDoor
open Go.Sy
theorem befN_irr : ∀ w : List (List UInt8), befN w w = false
 | [] => rfl
 | x :: w => by rw [befN, if_pos rfl, befN_irr w]
theorem tree_nodup (f : Int → List UInt8) : (treeV f).1.Nodup := by
 have h := (tree_law f).2.2.2.1
 refine List.Pairwise.imp (fun {x y} hxy => ?_) h
 rintro rfl
 rw [befN_irr] at hxy; cases hxy
theorem trsR_nodup (m : List (List UInt8)) (ws : List Wr) : ∀ t ∈ trsR m ws, t.Nodup := fun t ht => by
 unfold trsR at ht
 split at ht
 ·obtain ⟨k, e⟩ := trT_mem m ws _ t ht
  rw [e]; exact tree_nodup _
 ·cases ht
theorem foldT_pre {α : Type} [DecidableEq α] : ∀ (ys acc : List α), ∃ q, ys.foldl insT acc = acc ++ q ∧ ∀ x ∈ q, x ∉ acc
 | [], acc => ⟨[], by simp, fun x hx => by cases hx⟩
 | y :: ys, acc => by
  obtain ⟨q, e, h⟩ := foldT_pre ys (insT acc y)
  rw [List.foldl_cons, e]
  by_cases hy : y ∈ acc
  ·rw [show insT acc y = acc from if_pos hy] at h ⊢
   exact ⟨q, rfl, h⟩
  ·rw [show insT acc y = acc ++ [y] from if_neg hy] at h ⊢
   refine ⟨y :: q, by simp, fun x hx => ?_⟩
   rcases List.mem_cons.1 hx with rfl | hx
   ·exact hy
   ·exact fun ha => h x hx (List.mem_append_left _ ha)
theorem foldT_nodup {α : Type} [DecidableEq α] : ∀ (t acc : List α), (acc ++ t).Nodup → t.foldl insT acc = acc ++ t
 | [], acc, _ => by simp
 | y :: t, acc, h => by
  have hy : y ∉ acc := fun ha => by
   rw [List.nodup_append] at h
   exact h.2.2 y ha y List.mem_cons_self rfl
  rw [List.foldl_cons, show insT acc y = acc ++ [y] from if_neg hy, foldT_nodup t (acc ++ [y]) (by rw [List.append_assoc]; exact h), List.append_assoc]; rfl
theorem nodup_count (x : Nod) : ∀ t : List Nod, t.Nodup → x ∈ t → t.count x = 1
 | [], _, h => by cases h
 | y :: t, hn, h => by
  obtain ⟨h1, h2⟩ := List.nodup_cons.1 hn
  rw [List.count_cons]
  by_cases e : y = x
  ·subst e
   rw [List.count_eq_zero.2 h1]; simp
  ·rw [nodup_count x t h2 ((List.mem_cons.1 h).resolve_left fun q => e q.symm)]
   simp [e]
theorem count_all (x : Nod) : ∀ L : List (List Nod), (∀ t ∈ L, t.Nodup) → L.flatten.count x ≤ L.length ∧ (L.flatten.count x = L.length ↔ inAll L x = true)
 | [], _ => ⟨Nat.le_refl _, by simp [inAll]⟩
 | t :: L, h => by
  obtain ⟨i1, i2⟩ := count_all x L fun u hu => h u (List.mem_cons_of_mem _ hu)
  have ht := h t List.mem_cons_self
  have hc : t.count x = if x ∈ t then 1 else 0 := by
   by_cases hx : x ∈ t
   ·rw [if_pos hx]; exact nodup_count x t ht hx
   ·rw [if_neg hx]; exact List.count_eq_zero.2 hx
  have hia : inAll (t :: L) x = (decide (x ∈ t) && inAll L x) := rfl
  rw [List.flatten_cons, List.count_append, hc, hia, List.length_cons]
  by_cases hx : x ∈ t
  ·rw [if_pos hx, decide_eq_true hx, Bool.true_and, ← i2]
   exact ⟨by omega, by omega⟩
  ·rw [if_neg hx, decide_eq_false hx, Bool.false_and]
   exact ⟨by omega, ⟨fun e => by omega, fun e => by cases e⟩⟩
theorem sure_law (L : List (List Nod)) (h : ∀ t ∈ L, t.Nodup) : (ordN L.flatten).filter (fun x => decide (L.flatten.count x = L.length)) = sureD L := by
 have hf : (fun x => decide (L.flatten.count x = L.length)) = inAll L := by
  funext x
  have := (count_all x L h).2
  rw [Bool.eq_iff_iff, decide_eq_true_eq, this]
 rw [hf]
 cases L with
 | nil => rfl
 | cons t L =>
  show (ordN (t ++ L.flatten)).filter _ = t.filter _
  unfold ordN
  rw [List.foldl_append, foldT_nodup t [] (h t List.mem_cons_self), List.nil_append]
  obtain ⟨q, e, hq⟩ := foldT_pre L.flatten t
  rw [e, List.filter_append]
  rw [show q.filter (inAll (t :: L)) = [] from ?_, List.append_nil]
  rw [List.filter_eq_nil_iff]
  intro x hx
  have := hq x hx
  rw [show inAll (t :: L) x = (decide (x ∈ t) && inAll L x) from rfl, decide_eq_false this]
  simp
theorem sure_eq (m : List (List UInt8)) (ws : List Wr) : sureR m ws = sureD (trsR m ws) := sure_law _ (trsR_nodup m ws)
end Go.Proofs.YthknbpijaoljgaaGreatDoor
namespace Go.Proofs.YthknbpijaoljgaaGreatDoor
open Go.Sy
def sM : List (List UInt8) := emptyM.set 3 folderS
def sW : List Wr := [⟨17, k1S, 0, 0, 0⟩]
def sM1 : List (List UInt8) := sM.set 17 k1S
theorem sM_ok : ImOK sM := by
 intro s hs
 have h : ∀ s ∈ sM, s.length = 32 := by decide +kernel
 exact h s hs
theorem sW_ok : WsOK sW := by
 intro w hw
 simp only [sW, List.mem_cons, List.not_mem_nil, or_false] at hw
 rcases hw with rfl <;> rfl
theorem s_ok : OkSt sM sW := by decide +kernel
theorem s_all : allK sW (cpw sW.length) = [0, 1] := by decide +kernel
theorem s_i0 : imgI sM sW 0 sW.length = sM := by decide +kernel
theorem s_i1 : imgI sM sW 1 sW.length = sM1 := by decide +kernel
theorem s_a1 : nmsK (imS sM) 0 24 = [] := by decide +kernel
theorem s_a2 : (inoAt (imS sM) 0).k = 2 := by decide +kernel
theorem s_a3 : nms (imS sM) 0 = [] := by
 unfold nms sortS
 rw [s_a1, List.mergeSort_nil]; rfl
theorem s_t0 : treeV (imS sM) = ([], true) := by
 have e : subV (imS sM) 4 0 [] = [] := by
  rw [subV, s_a3]; rfl
 unfold treeV topV
 rw [if_pos s_a2, e]; rfl
theorem s_b1 : nmsK (imS sM1) 0 24 = [[97]] := by decide +kernel
theorem s_b2 : nmsK (imS sM1) 2 24 = [] := by decide +kernel
theorem s_b3 : mOf (imS sM1) 0 [97] = 2 := by decide +kernel
theorem s_b4 : (inoAt (imS sM1) 2).k = 2 := by decide +kernel
theorem s_b5 : dataV (imS sM1) (inoAt (imS sM1) 2) = [] := by decide +kernel
theorem s_b6 : (inoAt (imS sM1) 0).k = 2 := by decide +kernel
theorem s_b7 : nms (imS sM1) 0 = [[97]] := by
 unfold nms sortS
 rw [s_b1, List.mergeSort_singleton]; rfl
theorem s_b8 : nms (imS sM1) 2 = [] := by
 unfold nms sortS
 rw [s_b2, List.mergeSort_nil]; rfl
def nodA : Nod := ⟨[47, 97], true, []⟩
theorem s_t1 : treeV (imS sM1) = ([nodA], true) := by
 have e : subV (imS sM1) 4 0 [] = [nodA] := by
  rw [subV, s_b7]
  show nodV (imS sM1) [] 0 [97] :: ((if (inoAt (imS sM1) (mOf (imS sM1) 0 [97])).k = 2 then subV (imS sM1) 3 (mOf (imS sM1) 0 [97]) ([] ++ [[97]]) else []) ++ []) = _
  rw [s_b3, if_pos s_b4, subV, s_b8]
  show [nodV (imS sM1) [] 0 [97]] = _
  unfold nodV
  rw [s_b3, s_b4, s_b5]; rfl
 unfold treeV topV
 rw [if_pos s_b6, e]; rfl
theorem s_trs : trsR sM sW = [[], [nodA]] := by
 rw [show trsR sM sW = _ from if_pos s_ok]
 unfold trT
 rw [List.take_length, s_all]
 show ([treeK sM sW 0, treeK sM sW 1] : List (List Nod)).foldl insT [] = _
 unfold treeK
 rw [s_i0, s_i1, s_t0, s_t1]
 decide +kernel
theorem s_perh : perhR sM sW = [nodA] := by
 unfold perhR
 rw [s_trs]; decide +kernel
theorem s_sure : sureR sM sW = [] := by
 unfold sureR
 rw [s_perh, s_trs]; decide +kernel
end Go.Proofs.YthknbpijaoljgaaGreatDoor
namespace Go.Proofs.YthknbpijaoljgaaGreatDoor
open Go.Sy
theorem at_second {l : List (List D)} {x : List D} {K : List D → Prop} (hx : l[1]? = some x) (h : K x) : (0 ≤ (1 : Int) ∧ (1 : Int) < l.length) ∧ ∀ c, l[(1 : Int).toNat]? = some c → K c :=
 ⟨⟨by decide, by have := (List.getElem?_eq_some_iff.1 hx).1; omega⟩, fun c hc => by have e : some x = some c := hx.symm.trans hc; rw [← Option.some.inj e]; exact h⟩
set_option maxHeartbeats 8000000 in
theorem knows37_ok : FnC Tryz.prog 20 [] (.d (.bl true)) := by
 have hx32 : ∀ x ∈ sM.map encS, x.length = 32 := fun x hx => by
  obtain ⟨s, hs, rfl⟩ := List.mem_map.1 hx
  rw [encS_len]; exact sM_ok s hs
 have hs := refSuper_ok
 have ht := ctreesR_ok sM sM_ok (by decide +kernel) sW sW_ok
 have hu := csure_ok sM sM_ok (by decide +kernel) sW sW_ok
 have hp := cperh_ok sM sM_ok (by decide +kernel) sW sW_ok
 rw [s_trs, decide_eq_true s_ok] at ht
 have hx0 : (encT [[], [nodA]])[0]? = some [.fs 3 []] := rfl
 have hx1 : (encT [[], [nodA]])[1]? = some [.fs 3 [encN nodA]] := rfl
 have hx2 : (List.map encN [nodA])[0]? = some (encN nodA) := rfl
 rw [s_sure, decide_eq_true s_ok] at hu
 rw [s_perh, decide_eq_true s_ok] at hp
 refine FnC.intro ti_ok Tryz.func20 rfl Tryz.ntmps20 Tryz.call20 rfl (Nat.le_of_ble_eq_true rfl) rfl ?_
 (repeat' ((conv=>whnf);first|with_reducible refine gA ?_|((with_reducible refine callE_id ?_); first | refine CallE.con ⟨_, hs, ?_⟩ | refine CallE.inl ?_) | ((with_reducible refine callI_id ?_); with_reducible refine CallI.inl ti_ok i33 rfl ?_)|(with_reducible first|refine gB ?_|refine gZ (fun x hx hu=>?_)|refine gY (fun x hx=>?_)|refine gE ?_|refine Both.mk ?_ ?_|refine gS (fun h=>?_) (fun h=>?_)|refine Spl.nt ?_|refine Spl.mk (fun h=>?_) (fun h=>?_))))
 refine CallI.wkCon (τ := ⟨[(2, .ptr 3 0), (19, .ag 2 [.d (.fs 32 (sM.map encS)), .tg 36 (sW.map encW)])], [(3, .cells 2 [.d (.fs 32 (sM.map encS)), .tg 36 (sW.map encW)])], 4⟩) ht (Wk.frzMsAL 2 2080 _ rfl (And.intro ⟨_, rfl, .now MsV.now⟩ (And.intro ⟨_, rfl, MsA.first (.inr ⟨32, 0, 65, 65, sM.map encS, rfl, rfl, by decide, by kernel_rfl, ?_, by kernel_rfl⟩) rfl (fun x hx => by obtain rfl := List.mem_singleton.1 hx; rfl)⟩ trivial)) (And.intro ⟨rfl, _, rfl, MsO.first (.inr ⟨32, 0, 65, 65, sM.map encS, rfl, rfl, by decide, by kernel_rfl, ?_, by kernel_rfl⟩) rfl (fun x hx => by obtain rfl := List.mem_singleton.1 hx; rfl)⟩ trivial) rfl) rfl rfl ?_
 ·exact hx32
 ·exact hx32
 ·(repeat' ((conv=>whnf);first|with_reducible refine gA ?_|((with_reducible refine callE_id ?_); first | refine CallE.con ⟨_, hu, ?_⟩ | refine CallE.con ⟨_, hp, ?_⟩) | ((with_reducible refine and_idH ?_); first | refine at_first hx0 ?_ | refine at_second hx1 ?_ | refine at_first hx2 ?_)|(with_reducible first|refine gB ?_|refine gZ (fun x hx hu=>?_)|refine gY (fun x hx=>?_)|refine gE ?_|refine Both.mk ?_ ?_|refine gS (fun h=>?_) (fun h=>?_)|refine Spl.nt ?_|refine Spl.mk (fun h=>?_) (fun h=>?_))))
  rfl
end Go.Proofs.YthknbpijaoljgaaGreatDoor
namespace Go.Proofs.YthknbpijaoljgaaGreatDoor
open Go.Sy
end Go.Proofs.YthknbpijaoljgaaGreatDoor
namespace Go.Proofs.YthknbpijaoljgaaGreatDoor
open Go.Sy
set_option maxHeartbeats 2000000 in
theorem fateU_ok (c i : Nat) (hc : c ≤ 18446744073709551615) (h : i < 32) : FnC Tryz.prog 67 [.d (.it .u64 (c : Nat)), .d (.it .i64 (i : Nat))] (.d (.it .i64 (c / 4 ^ i % 4 : Nat))) := by
 have hb := chas_ok i h
 have h1 : c / 4 ^ i ≤ c := Nat.div_le_self ..
 have h2 : c / 4 ^ i &&& 3 = c / 4 ^ i % 4 := Nat.and_two_pow_sub_one_eq_mod (c / 4 ^ i) 2
 have h3 := shr_ok c i h
 refine FnC.intro ti_ok Tryz.func67 rfl Tryz.ntmps67 Tryz.call67 rfl (Nat.le_of_ble_eq_true rfl) rfl ?_
 (repeat' ((conv=>whnf);first|with_reducible refine gA ?_|((with_reducible refine callE_id ?_); refine CallE.con ⟨_, hb, ?_⟩) | with_reducible refine CallP.mk ⟨_, hb, ?_⟩ | ((with_reducible refine letI_id ?_); first | refine LetI.as (u64_wrap (by omega)) ?_ | refine LetI.as h3 ?_ | refine LetI.as (and64 (b := 3) (by omega) (by omega) h2) ?_)|(with_reducible first|refine gB ?_|refine gZ (fun x hx hu=>?_)|refine gY (fun x hx=>?_)|refine gE ?_|refine Both.mk ?_ ?_|refine gS (fun h=>?_) (fun h=>?_)|refine Spl.nt ?_|refine Spl.mk (fun h=>?_) (fun h=>?_))))
 rfl
def fM (x i : Nat) : Nat := (x &&& 6148914691236517205) / 4 ^ i % 4
theorem fM_lt (x i : Nat) (h : i < 32) : fM x i ≤ 1 := by
 have hb : ∀ i < 32, Nat.testBit 6148914691236517205 (2 * i + 1) = false := by decide +kernel
 have h1 : (x &&& 6148914691236517205).testBit (2 * i + 1) = false := by rw [Nat.testBit_and, hb i h, Bool.and_false]
 rw [Nat.testBit_eq_decide_div_mod_eq, decide_eq_false_iff_not] at h1
 unfold fM
 generalize (x &&& 6148914691236517205) = c at *
 have e : c / 2 ^ (2 * i + 1) = c / 4 ^ i / 2 := by
  rw [Nat.div_div_eq_div_mul, Nat.pow_succ, show (4 : Nat) ^ i = 2 ^ (2 * i) by rw [Nat.pow_mul]]
 rw [e] at h1
 omega
theorem andn64 {c i y : Nat} (hc : c < 4 ^ i) (hi : i < 32) (hy : y = 3 * 4 ^ i) : IntKind.u64.wrap (BitVec.ofInt IntKind.u64.bits (c : Int) &&& ~~~BitVec.ofInt IntKind.u64.bits (y : Int)).toNat = (c : Int) := by
  have hp : (4 : Nat) ^ i ≤ 4 ^ 31 := Nat.pow_le_pow_right (by decide) (by omega)
  have hc64 : c < 2 ^ 64 := by have : (4 : Nat) ^ 31 < 2 ^ 64 := by decide
                               omega
  have e : (BitVec.ofInt IntKind.u64.bits (c : Int) &&& ~~~BitVec.ofInt IntKind.u64.bits (y : Int)).toNat = c := by
    show (BitVec.ofInt 64 (c : Int) &&& ~~~BitVec.ofInt 64 (y : Int)).toNat = c
    rw [BitVec.ofInt_natCast, BitVec.ofInt_natCast]
    suffices h : (BitVec.ofNat 64 c &&& ~~~BitVec.ofNat 64 y) = BitVec.ofNat 64 c by
      rw [h, BitVec.toNat_ofNat, Nat.mod_eq_of_lt hc64]
    apply BitVec.eq_of_getLsbD_eq
    intro j hj
    rw [BitVec.getLsbD_and, BitVec.getLsbD_not, BitVec.getLsbD_ofNat, BitVec.getLsbD_ofNat]
    by_cases hb : c.testBit j = true
    · have hj2 : j < 2 * i := by
        rcases Nat.lt_or_ge j (2 * i) with h | h
        · exact h
        · have : c < 2 ^ j := Nat.lt_of_lt_of_le (by rw [show (2 : Nat) ^ (2 * i) = 4 ^ i by rw [Nat.pow_mul]]; exact hc) (Nat.pow_le_pow_right (by decide) h)
          rw [Nat.testBit_lt_two_pow this] at hb; cases hb
      have hy2 : y.testBit j = false := by
        rw [hy, show (4 : Nat) ^ i = 2 ^ (2 * i) by rw [Nat.pow_mul], Nat.testBit_mul_two_pow]
        simp; omega
      simp [hb, hy2, hj]
    · have hb : c.testBit j = false := by simpa using hb
      simp [hb]
  rw [e, u64_wrap (by omega)]
end Go.Proofs.YthknbpijaoljgaaGreatDoor
namespace Go.Proofs.YthknbpijaoljgaaGreatDoor
open Go.Sy
def nG (g : Nat → Nat) : Nat → Nat
 | 0 => 0
 | i + 1 => nG g i + g i * 4 ^ i
theorem nG_lt {g : Nat → Nat} {n : Nat} (h : ∀ i < n, g i ≤ 1) : nG g n < 4 ^ n := by
 induction n with
 | zero => show 0 < 4 ^ 0; decide
 | succ n ih =>
  have h1 := ih fun i hi => h i (by omega)
  have h2 := h n (by omega)
  show nG g n + g n * 4 ^ n < 4 ^ (n + 1)
  rw [Nat.pow_succ]
  have : g n * 4 ^ n ≤ 1 * 4 ^ n := Nat.mul_le_mul_right _ h2
  omega
theorem nG_or {g : Nat → Nat} {i : Nat} (h : ∀ k < i, g k ≤ 1) : nG g i ||| g i * 4 ^ i = nG g (i + 1) := by
 have h1 := nG_lt h
 have h4 : 4 ^ i = 2 ^ (2 * i) := by rw [Nat.pow_mul]
 show _ = nG g i + g i * 4 ^ i
 rw [h4] at h1 ⊢
 rw [Nat.or_comm, Nat.mul_comm, ← Nat.two_pow_add_eq_or_of_lt h1, Nat.add_comm]
theorem shlN_ok (a i : Nat) (ha : a ≤ 3) (h : i < 8) : IntKind.u64.wrap ((a : Int) * 2 ^ (min ((2 * (i : Int)).toNat) IntKind.u64.bits)) = ((a * 4 ^ i : Nat) : Int) := by
 have e : min ((2 * (i : Int)).toNat) IntKind.u64.bits = 2 * i := by
  show min ((2 * (i : Int)).toNat) 64 = 2 * i
  omega
 have e2 : ((2 : Int) ^ (2 * i)) = ((4 ^ i : Nat) : Int) := by rw [show (4 : Nat) ^ i = 2 ^ (2 * i) by rw [Nat.pow_mul], Int.natCast_pow]; rfl
 have hp := p4_le (i := i) (by omega)
 have : a * 4 ^ i ≤ 3 * 65536 := Nat.mul_le_mul ha hp
 rw [e, e2, ← Int.natCast_mul, u64_wrap (by omega)]
set_option maxHeartbeats 4000000 in
theorem withG_ok (g : Nat → Nat) (i : Nat) (hg : ∀ k ≤ i, g k ≤ 1) (h : i < 8) : FnC Tryz.prog 70 [.d (.it .u64 (nG g i : Nat)), .d (.it .i64 (i : Nat)), .d (.it .i64 (g i : Nat))] (.d (.it .u64 (nG g (i + 1) : Nat))) := by
 have hb := chas_ok i (by omega)
 have h1 := nG_lt (g := g) (n := i) fun k hk => hg k (by omega)
 have h2 := hg i (Nat.le_refl i)
 have h3 := nG_or (g := g) (i := i) fun k hk => hg k (by omega)
 have h4 := nG_lt (g := g) (n := i + 1) fun k hk => hg k (by omega)
 have hp := p4_le (i := i) (by omega)
 have hp2 := p4_le (i := i + 1) (by omega)
 have hgp : g i * 4 ^ i ≤ 1 * 65536 := Nat.mul_le_mul h2 hp
 have e1 := shlN_ok 3 i (by decide) h
 have e2 := shlN_ok (g i) i (by omega) h
 have e3 := andn64 (c := nG g i) (i := i) (y := 3 * 4 ^ i) h1 (by omega) rfl
 have e4 := or64 (a := nG g i) (b := g i * 4 ^ i) (c := nG g (i + 1)) (by omega) (by omega) (by omega) h3
 refine FnC.intro ti_ok Tryz.func70 rfl Tryz.ntmps70 Tryz.call70 rfl (Nat.le_of_ble_eq_true rfl) rfl ?_
 (repeat' ((conv=>whnf);first|with_reducible refine gA ?_|((with_reducible refine callE_id ?_); refine CallE.con ⟨_, hb, ?_⟩) | with_reducible refine CallP.mk ⟨_, hb, ?_⟩ | ((with_reducible refine letI_id ?_); first | refine LetI.as (u64_wrap (by omega)) ?_ | refine LetI.as e1 ?_ | refine LetI.as e2 ?_ | refine LetI.as e3 ?_ | refine LetI.as e4 ?_)|(with_reducible first|refine gB ?_|refine gZ (fun x hx hu=>?_)|refine gY (fun x hx=>?_)|refine gE ?_|refine Both.mk ?_ ?_|refine gS (fun h=>?_) (fun h=>?_)|refine Spl.nt ?_|refine Spl.mk (fun h=>?_) (fun h=>?_))))
 all_goals first | (exfalso; omega) | rfl | skip
end Go.Proofs.YthknbpijaoljgaaGreatDoor
namespace Go.Proofs.YthknbpijaoljgaaGreatDoor
open Go.Sy
def hitC (x : Nat) (es : List Int) (i k : Nat) : Bool := decide (fM x k ≠ 0 ∧ es.getD i 0 < es.getD k 0)
def gC (x : Nat) (es : List Int) (i : Nat) : Nat := if (List.range es.length).any (hitC x es i) = true then 1 else fM x i
theorem gC_lt (x : Nat) (es : List Int) (i : Nat) (h : i < 32) : gC x es i ≤ 1 := by
 unfold gC
 split
 ·exact Nat.le_refl 1
 ·exact fM_lt x i h
def kG (g : Nat → Nat) : Nat → Nat
 | 0 => 0
 | i + 1 => kG g i + g i * 2 ^ i
theorem kG_lt {g : Nat → Nat} {n : Nat} (h : ∀ i < n, g i ≤ 1) : kG g n < 2 ^ n := by
 induction n with
 | zero => show 0 < 2 ^ 0; decide
 | succ n ih =>
  have h1 := ih fun i hi => h i (by omega)
  have h2 := h n (by omega)
  show kG g n + g n * 2 ^ n < 2 ^ (n + 1)
  rw [Nat.pow_succ]
  have : g n * 2 ^ n ≤ 1 * 2 ^ n := Nat.mul_le_mul_right _ h2
  omega
theorem kG_dg {g : Nat → Nat} {n : Nat} (h : ∀ i < n, g i ≤ 1) : ∀ i < n, dg (kG g n) i = g i := by
 induction n with
 | zero => exact fun i hi => absurd hi (by omega)
 | succ n ih =>
  intro i hi
  have h1 := ih fun i hi => h i (by omega)
  have h2 := kG_lt (g := g) (n := n) fun i hi => h i (by omega)
  show (kG g n + g n * 2 ^ n) / 2 ^ i % 2 = g i
  rcases Nat.lt_or_ge i n with hin | hin
  ·rw [← h1 i hin]
   unfold dg
   obtain ⟨d, rfl⟩ : ∃ d, n = i + (d + 1) := ⟨n - i - 1, by omega⟩
   have e : kG g (i + (d + 1)) + g (i + (d + 1)) * 2 ^ (i + (d + 1)) = kG g (i + (d + 1)) + 2 ^ i * (g (i + (d + 1)) * 2 ^ d * 2) := by
    rw [Nat.pow_add, Nat.pow_succ]
    congr 1
    rw [Nat.mul_comm, Nat.mul_assoc, Nat.mul_assoc, Nat.mul_comm (g _), Nat.mul_assoc, Nat.mul_comm 2]
   rw [e, Nat.add_mul_div_left _ _ (Nat.pow_pos (by decide)), Nat.add_mul_mod_self_right]
  ·have : i = n := by omega
   subst this
   rw [Nat.add_mul_div_right _ _ (Nat.pow_pos (by decide)), Nat.div_eq_of_lt h2, Nat.zero_add]
   have := h i (by omega)
   exact Nat.mod_eq_of_lt (by omega)
theorem kG_nth {g : Nat → Nat} {n : Nat} (h : ∀ i < n, g i ≤ 1) : ∀ i ≤ n, nthR (kG g n) i = nG g i
 | 0, _ => rfl
 | i + 1, hi => by
  show nthR (kG g n) i + dg (kG g n) i * 4 ^ i = nG g i + g i * 4 ^ i
  rw [kG_nth h i (by omega), kG_dg h i (by omega)]
theorem close_alw (x : Nat) (es : List Int) (h8 : es.length ≤ 8) : AlwP es (kG (gC x es) es.length) := by
 have hg : ∀ i < es.length, gC x es i ≤ 1 := fun i hi => gC_lt x es i (by omega)
 intro i hi j hj hd hlt
 rw [kG_dg hg j hj] at hd
 rw [kG_dg hg i hi]
 have key : ∃ k < es.length, fM x k ≠ 0 ∧ es.getD j 0 ≤ es.getD k 0 := by
  unfold gC at hd
  split at hd
  ·rename_i ha
   obtain ⟨k, hk, hh⟩ := List.any_eq_true.1 ha
   have hh := of_decide_eq_true hh
   exact ⟨k, List.mem_range.1 hk, hh.1, by omega⟩
  ·exact ⟨j, hj, hd, by omega⟩
 obtain ⟨k, hk, h1, h2⟩ := key
 unfold gC
 rw [if_pos (List.any_eq_true.2 ⟨k, List.mem_range.2 hk, decide_eq_true ⟨h1, by omega⟩⟩)]
theorem close_in (x : Nat) (ws : List Wr) (h8 : ws.length ≤ 8) : kG (gC x (esW ws)) ws.length ∈ allK ws (cpw ws.length) ∧ nthR (kG (gC x (esW ws)) ws.length) ws.length = nG (gC x (esW ws)) ws.length ∧ kG (gC x (esW ws)) ws.length < 256 ∧ AlwP (esW ws) (kG (gC x (esW ws)) ws.length) := by
 have hl := esW_len ws
 have ha := close_alw x (esW ws) (by rw [hl]; exact h8)
 rw [hl] at ha
 have hg : ∀ i < ws.length, gC x (esW ws) i ≤ 1 := fun i hi => gC_lt x _ i (by omega)
 have h1 : kG (gC x (esW ws)) ws.length < cpw ws.length := kG_lt hg
 have h2 := cpw_le h8
 refine ⟨?_, kG_nth hg _ (Nat.le_refl _), by omega, ha⟩
 unfold allK
 exact List.mem_filter.2 ⟨List.mem_range.2 h1, decide_eq_true ha⟩
end Go.Proofs.YthknbpijaoljgaaGreatDoor
namespace Go.Proofs.YthknbpijaoljgaaGreatDoor
open Go.Sy
def ftC (x : Nat) (es : List Int) (i k : Nat) : Nat := if (List.range k).any (hitC x es i) = true then 1 else fM x i
theorem ftC_succ (x : Nat) (es : List Int) (i k : Nat) : ftC x es i (k + 1) = if hitC x es i k = true then 1 else ftC x es i k := by
 unfold ftC
 rw [List.range_succ, List.any_append]
 by_cases h1 : (List.range k).any (hitC x es i) = true
 ·rw [h1]; simp
 ·simp only [Bool.not_eq_true] at h1
  rw [h1]; simp
theorem ftC_lt (x : Nat) (es : List Int) (i k : Nat) (h : i < 32) : ftC x es i k ≤ 1 := by
 unfold ftC
 split
 ·exact Nat.le_refl 1
 ·exact fM_lt x i h
def clA (x : Nat) (es : List Int) (i : Nat) : S := ⟨[(1, .d (.it .u64 ((x &&& 6148914691236517205 : Nat) : Int))), (5, .d (.fs 1 (vI es))), (6, .d (.it .u64 (nG (gC x es) i : Nat))), (7, .d (.it .i64 (i : Nat)))], [], 1⟩
def clB (x : Nat) (es : List Int) (i k : Nat) : S := ⟨[(1, .d (.it .u64 ((x &&& 6148914691236517205 : Nat) : Int))), (5, .d (.fs 1 (vI es))), (6, .d (.it .u64 (nG (gC x es) i : Nat))), (7, .d (.it .i64 (i : Nat))), (8, .d (.it .i64 (ftC x es i k : Nat))), (9, .d (.it .i64 (k : Nat)))], [], 1⟩
set_option maxHeartbeats 16000000 in
theorem close_ok (m : List (List UInt8)) (ws : List Wr) (hw : WsOK ws) (h8 : ws.length ≤ 8) (x : Nat) (hx : x ≤ 18446744073709551615) : FnC Tryz.prog 29 [.dg 2 (encSt m ws), .d (.it .u64 ((x &&& 6148914691236517205 : Nat) : Int))] (.d (.it .u64 (nG (gC x (esW ws)) ws.length : Nat))) := by
 have hep := cepo_ok m ws hw (by omega)
 have hes := esW_len ws
 rw [← hes] at h8 ⊢
 have hvl : (vI (esW ws)).length = (esW ws).length := List.length_map ..
 have hc : x &&& 6148914691236517205 ≤ 18446744073709551615 := Nat.le_trans Nat.and_le_left hx
 refine FnC.intro ti_ok Tryz.func29 rfl Tryz.ntmps29 Tryz.call29 rfl (Nat.le_of_ble_eq_true rfl) rfl ?_
 (repeat' ((conv=>whnf);first|with_reducible refine gA ?_|((with_reducible refine callE_id ?_); (refine CallE.con ⟨_, hep, ?_⟩))|(with_reducible first|refine gB ?_|refine gZ (fun x hx hu=>?_)|refine gY (fun x hx=>?_)|refine gE ?_|refine Both.mk ?_ ?_|refine gS (fun h=>?_) (fun h=>?_)|refine Spl.nt ?_|refine Spl.mk (fun h=>?_) (fun h=>?_))))
 conv => whnf
 generalize esW ws = es at *
 refine loop_ruleW ti_ok (fun i : Nat => i ≤ es.length) (clA x es) (fun i => es.length - i) 0 (Nat.zero_le _) (Wk.en ⟨And.intro rfl (And.intro rfl (And.intro rfl (And.intro rfl trivial))), trivial, rfl⟩) ?_
 intro i hi
 have hgl : ∀ k ≤ i, i < es.length → gC x es k ≤ 1 := fun k hk h => gC_lt x es k (by omega)
 have hnl : nG (gC x es) i ≤ 65536 := by
  have h1 := nG_lt (g := gC x es) (n := i) fun k hk => gC_lt x es k (by omega)
  have h2 := p4_le (i := i) (by omega)
  omega
 by_cases hil : i < es.length
 ·have hf : FnC Tryz.prog 67 [.d (.it .u64 ((x &&& 6148914691236517205 : Nat) : Int)), .d (.it .i64 (i : Nat))] (.d (.it .i64 (fM x i : Nat))) := fateU_ok _ i hc (by omega)
  have hfl := fM_lt x i (by omega)
  have hwi := withG_ok (gC x es) i (fun k hk => hgl k hk hil) (by omega)
  obtain ⟨e, he⟩ := lt_get hil
  have hxe : (vI es)[i]? = some [.it .i64 e] := by unfold vI; rw [List.getElem?_map, he]; rfl
  have hed : es.getD i 0 = e := by rw [List.getD_eq_getElem?_getD, he]; rfl
  unfold clA
  (repeat' ((conv=>whnf);first|with_reducible refine gA ?_|((with_reducible refine callE_id ?_); (refine CallE.con ⟨_, hf, ?_⟩))|(with_reducible first|refine gB ?_|refine gZ (fun x hx hu=>?_)|refine gY (fun x hx=>?_)|refine gE ?_|refine Both.mk ?_ ?_|refine gS (fun h=>?_) (fun h=>?_)|refine Spl.nt ?_|refine Spl.mk (fun h=>?_) (fun h=>?_))))
  conv => whnf
  refine loop_ruleW ti_ok (fun k : Nat => k ≤ es.length) (clB x es i) (fun k => es.length - k) 0 (Nat.zero_le _) (Wk.en ⟨And.intro rfl (And.intro rfl (And.intro rfl (And.intro rfl (And.intro rfl (And.intro rfl trivial))))), trivial, rfl⟩) ?_
  intro k hk
  have hftl := ftC_lt x es i k (by omega)
  by_cases hkl : k < es.length
  ·have hfk : FnC Tryz.prog 67 [.d (.it .u64 ((x &&& 6148914691236517205 : Nat) : Int)), .d (.it .i64 (k : Nat))] (.d (.it .i64 (fM x k : Nat))) := fateU_ok _ k hc (by omega)
   have hfkl := fM_lt x k (by omega)
   obtain ⟨e2, he2⟩ := lt_get hkl
   have hxk : (vI es)[k]? = some [.it .i64 e2] := by unfold vI; rw [List.getElem?_map, he2]; rfl
   have hed2 : es.getD k 0 = e2 := by rw [List.getD_eq_getElem?_getD, he2]; rfl
   have hsu := ftC_succ x es i k
   have hto : ∀ {N : Nat} {σ : S} {z : Nat}, ftC x es i (k + 1) = z → Wk N σ ⟨[(1, .d (.it .u64 ((x &&& 6148914691236517205 : Nat) : Int))), (5, .d (.fs 1 (vI es))), (6, .d (.it .u64 (nG (gC x es) i : Nat))), (7, .d (.it .i64 (i : Nat))), (8, .d (.it .i64 (z : Nat))), (9, .d (.it .i64 ((k + 1 : Nat) : Int)))], [], 1⟩ → Wk N σ (clB x es i (k + 1)) := fun h q => by unfold clB; rw [h]; exact q
   unfold hitC at hsu
   rw [hed, hed2] at hsu
   unfold clB
   (repeat' ((conv=>whnf);first|with_reducible refine gA ?_|refine at_some hxe ?_ | refine at_some hxk ?_ | ((with_reducible refine callE_id ?_); (refine CallE.con ⟨_, hfk, ?_⟩)) | with_reducible refine CallP.mk ⟨_, hfk, ?_⟩ | with_reducible refine AtA.mk' ?_|(with_reducible first|refine gB ?_|refine gZ (fun x hx hu=>?_)|refine gY (fun x hx=>?_)|refine gE ?_|refine Both.mk ?_ ?_|refine gS (fun h=>?_) (fun h=>?_)|refine Spl.nt ?_|refine Spl.mk (fun h=>?_) (fun h=>?_))))
   ·exact ⟨k + 1, hkl, by first | omega | (dsimp only; omega), hto (z := 1) (by rw [hsu, if_pos (decide_eq_true ⟨by omega, by omega⟩)]) (Wk.en ⟨And.intro rfl (And.intro rfl (And.intro rfl (And.intro rfl (And.intro rfl (And.intro (it_eq (by omega)) trivial))))), trivial, rfl⟩)⟩
   all_goals exact ⟨k + 1, hkl, by first | omega | (dsimp only; omega), hto (z := ftC x es i k) (by rw [hsu, if_neg (fun q => by have := of_decide_eq_true q; omega)]) (Wk.en ⟨And.intro rfl (And.intro rfl (And.intro rfl (And.intro rfl (And.intro rfl (And.intro (it_eq (by omega)) trivial))))), trivial, rfl⟩)⟩
  ·have hke : k = es.length := by omega
   subst hke
   have hge : ftC x es i es.length = gC x es i := rfl
   have hgi := hgl i (Nat.le_refl _) hil
   unfold clB
   rw [hge]
   have hmin : (if (2 : Int) < ((gC x es i : Nat) : Int) then (2 : Int) else ((gC x es i : Nat) : Int)) = ((gC x es i : Nat) : Int) := if_neg (by omega)
   (repeat' ((conv=>whnf);first|with_reducible refine gA ?_|((with_reducible refine callE_id ?_); (refine CallE.con ⟨_, hwi, ?_⟩)) | ((with_reducible refine letI_id ?_); refine LetI.as hmin ?_)|(with_reducible first|refine gB ?_|refine gZ (fun x hx hu=>?_)|refine gY (fun x hx=>?_)|refine gE ?_|refine Both.mk ?_ ?_|refine gS (fun h=>?_) (fun h=>?_)|refine Spl.nt ?_|refine Spl.mk (fun h=>?_) (fun h=>?_))))
   exact ⟨i + 1, hil, by first | omega | (dsimp only; omega), Wk.en ⟨And.intro rfl (And.intro rfl (And.intro rfl (And.intro (it_eq (by omega)) trivial))), trivial, rfl⟩⟩
 ·have hie : i = es.length := by omega
  subst hie
  unfold clA
  (repeat' ((conv=>whnf);first|with_reducible refine gA ?_|(with_reducible first|refine gB ?_|refine gZ (fun x hx hu=>?_)|refine gY (fun x hx=>?_)|refine gE ?_|refine Both.mk ?_ ?_|refine gS (fun h=>?_) (fun h=>?_)|refine Spl.nt ?_|refine Spl.mk (fun h=>?_) (fun h=>?_))))
  rfl
end Go.Proofs.YthknbpijaoljgaaGreatDoor
namespace Go.Proofs.YthknbpijaoljgaaGreatDoor
open Go.Sy
set_option maxHeartbeats 4000000 in
theorem cimg_nil : FnC Tryz.prog 28 [.dg 2 (encSt [] []), .d (.it .u64 0)] (.tup [.d (.fs 32 []), .d (.bl true)]) := by
 have ha := calws_ok [] [] (fun w hw => by cases hw) (by decide) 0 (by decide)
 rw [decide_eq_true (by decide)] at ha
 have ha : FnC Tryz.prog 64 [.dg 2 (encSt [] []), .d (.it .u64 0)] (.d (.bl true)) := ha
 refine FnC.intro ti_ok Tryz.func28 rfl Tryz.ntmps28 Tryz.call28 rfl (Nat.le_of_ble_eq_true rfl) rfl ?_
 (repeat' ((conv=>whnf);first|with_reducible refine gA ?_|((with_reducible refine callE_id ?_); first | refine CallE.con ⟨_, ha, ?_⟩ | refine CallE.inl ?_) | ((with_reducible refine callI_id ?_); first | with_reducible refine CallI.inl ti_ok i65 rfl ?_ | with_reducible refine CallI.inl ti_ok i107 rfl ?_ | with_reducible refine CallI.inl ti_ok i66 rfl ?_) | with_reducible refine LoopS.unroll ti_ok 1 ?_|(with_reducible first|refine gB ?_|refine gZ (fun x hx hu=>?_)|refine gY (fun x hx=>?_)|refine gE ?_|refine Both.mk ?_ ?_|refine gS (fun h=>?_) (fun h=>?_)|refine Spl.nt ?_|refine Spl.mk (fun h=>?_) (fun h=>?_))))
 all_goals rfl
def inA (a b : List Nod) (i : Nat) : S := ⟨[(0, .d (.fs 3 (a.map encN))), (1, .d (.fs 3 (b.map encN))), (5, .d (.it .i64 (i : Nat)))], [], 0⟩
def inB (a b : List Nod) (i k : Nat) (t : Bool) : S := ⟨[(0, .d (.fs 3 (a.map encN))), (1, .d (.fs 3 (b.map encN))), (5, .d (.it .i64 (i : Nat))), (6, .d (.bl t)), (7, .d (.it .i64 (k : Nat)))], [], 0⟩
theorem inB_to {a b : List Nod} {i k : Nat} {t u : Bool} {N : Nat} {σ : S} (h : u = t) (q : Wk N σ (inB a b i k t)) : Wk N σ (inB a b i k u) := by rw [h]; exact q
set_option maxHeartbeats 8000000 in
theorem in_ok (a b : List Nod) (ha : a.length ≤ 100000) (hb : b.length ≤ 100000) (h : ∀ x ∈ a, x ∈ b) : FnC Tryz.prog 32 [.d (.fs 3 (a.map encN)), .d (.fs 3 (b.map encN))] (.d (.bl true)) := by
 have hla : (a.map encN).length = a.length := List.length_map ..
 have hlb : (b.map encN).length = b.length := List.length_map ..
 refine FnC.intro ti_ok Tryz.func32 rfl Tryz.ntmps32 Tryz.call32 rfl (Nat.le_of_ble_eq_true rfl) rfl ?_
 (repeat' ((conv=>whnf);first|with_reducible refine gA ?_|(with_reducible first|refine gB ?_|refine gZ (fun x hx hu=>?_)|refine gY (fun x hx=>?_)|refine gE ?_|refine Both.mk ?_ ?_|refine gS (fun h=>?_) (fun h=>?_)|refine Spl.nt ?_|refine Spl.mk (fun h=>?_) (fun h=>?_))))
 conv => whnf
 refine loop_ruleW ti_ok (fun i : Nat => i ≤ a.length) (inA a b) (fun i => a.length - i) 0 (Nat.zero_le _) (Wk.en ⟨And.intro rfl (And.intro rfl (And.intro rfl trivial)), trivial, rfl⟩) ?_
 intro i hi
 by_cases hil : i < a.length
 ·obtain ⟨x, hx⟩ := lt_get hil
  have hxb := h x (List.mem_of_getElem? hx)
  have hxe : (a.map encN)[i]? = some (encN x) := by rw [List.getElem?_map, hx]; rfl
  unfold inA
  (repeat' ((conv=>whnf);first|with_reducible refine gA ?_|(with_reducible first|refine gB ?_|refine gZ (fun x hx hu=>?_)|refine gY (fun x hx=>?_)|refine gE ?_|refine Both.mk ?_ ?_|refine gS (fun h=>?_) (fun h=>?_)|refine Spl.nt ?_|refine Spl.mk (fun h=>?_) (fun h=>?_))))
  conv => whnf
  refine loop_ruleW ti_ok (fun k : Nat => k ≤ b.length) (fun k => inB a b i k (decide (x ∈ b.take k))) (fun k => b.length - k) 0 (Nat.zero_le _) (inB_to (t := false) (by simp) (Wk.en ⟨And.intro rfl (And.intro rfl (And.intro rfl (And.intro rfl (And.intro rfl trivial)))), trivial, rfl⟩)) ?_
  intro k hk
  by_cases hkl : k < b.length
  ·obtain ⟨y, hy⟩ := lt_get hkl
   have hye : (b.map encN)[k]? = some (encN y) := by rw [List.getElem?_map, hy]; rfl
   have hdec : decide (x ∈ b.take (k + 1)) = (decide (x ∈ b.take k) || decide (x = y)) := by
    rw [take_snoc hy, Bool.eq_iff_iff]
    simp only [decide_eq_true_eq, List.mem_append, List.mem_singleton, Bool.or_eq_true]
   generalize decide (x ∈ b.take k) = t at hdec ⊢
   unfold inB
   cases t with
   | true =>
    (repeat' ((conv=>whnf);first|with_reducible refine gA ?_|refine at_some hxe ?_ | refine at_some hye ?_ | with_reducible refine AtA.mk' ?_|(with_reducible first|refine gB ?_|refine gZ (fun x hx hu=>?_)|refine gY (fun x hx=>?_)|refine gE ?_|refine Both.mk ?_ ?_|refine gS (fun h=>?_) (fun h=>?_)|refine Spl.nt ?_|refine Spl.mk (fun h=>?_) (fun h=>?_))))
    exact ⟨k + 1, hkl, by first | omega | (dsimp only; omega), inB_to (t := true) hdec (Wk.en ⟨And.intro rfl (And.intro rfl (And.intro rfl (And.intro rfl (And.intro (it_eq (by omega)) trivial)))), trivial, rfl⟩)⟩
   | false =>
    (repeat' ((conv=>whnf);first|with_reducible refine gA ?_|refine at_some hxe ?_ | refine at_some hye ?_ | with_reducible refine AtA.mk' ?_|(with_reducible first|refine gB ?_|refine gZ (fun x hx hu=>?_)|refine gY (fun x hx=>?_)|refine gE ?_|refine Both.mk ?_ ?_|refine gS (fun h=>?_) (fun h=>?_)|refine Spl.nt ?_|refine Spl.mk (fun h=>?_) (fun h=>?_))))
    exact ⟨k + 1, hkl, by first | omega | (dsimp only; omega), inB_to (t := eqDs (encN x) (encN y)) (by rw [hdec, Bool.false_or, eqNn]) (Wk.en ⟨And.intro rfl (And.intro rfl (And.intro rfl (And.intro rfl (And.intro (it_eq (by omega)) trivial)))), trivial, rfl⟩)⟩
  ·have hke : b.take k = b := List.take_of_length_le (by omega)
   rw [hke, decide_eq_true hxb]
   unfold inB
   (repeat' ((conv=>whnf);first|with_reducible refine gA ?_|(with_reducible first|refine gB ?_|refine gZ (fun x hx hu=>?_)|refine gY (fun x hx=>?_)|refine gE ?_|refine Both.mk ?_ ?_|refine gS (fun h=>?_) (fun h=>?_)|refine Spl.nt ?_|refine Spl.mk (fun h=>?_) (fun h=>?_))))
   exact ⟨i + 1, hil, by first | omega | (dsimp only; omega), Wk.en ⟨And.intro rfl (And.intro rfl (And.intro (it_eq (by omega)) trivial)), trivial, rfl⟩⟩
 ·unfold inA
  (repeat' ((conv=>whnf);first|with_reducible refine gA ?_|(with_reducible first|refine gB ?_|refine gZ (fun x hx hu=>?_)|refine gY (fun x hx=>?_)|refine gE ?_|refine Both.mk ?_ ?_|refine gS (fun h=>?_) (fun h=>?_)|refine Spl.nt ?_|refine Spl.mk (fun h=>?_) (fun h=>?_))))
  rfl
end Go.Proofs.YthknbpijaoljgaaGreatDoor
namespace Go.Proofs.YthknbpijaoljgaaGreatDoor
open Go.Sy
theorem sure_tree (m : List (List UInt8)) (ws : List Wr) (t : List Nod) (ht : t ∈ trsR m ws) : ∀ x ∈ sureR m ws, x ∈ t := fun x hx => by
 rw [sure_eq] at hx
 unfold sureD at hx
 have h := (List.mem_filter.1 hx).2
 unfold inAll at h
 exact of_decide_eq_true (List.all_eq_true.1 h t ht)
theorem tree_perh (m : List (List UInt8)) (ws : List Wr) (t : List Nod) (ht : t ∈ trsR m ws) : ∀ x ∈ t, x ∈ perhR m ws := fun x hx => by
 unfold perhR
 exact (ordN_mem x _ rfl).2 (List.mem_flatten.2 ⟨t, ht, hx⟩)
theorem trs_one (m : List (List UInt8)) (h : OkSt m []) : (trsR m []).length = 1 := by
 have h0 : allK [] (cpw ([] : List Wr).length) = [0] := by decide +kernel
 rw [show trsR m [] = _ from if_pos h]
 unfold trT
 rw [List.take_length, h0]
 show (([treeK m [] 0] : List (List Nod)).foldl insT []).length = 1
 show (insT [] (treeK m [] 0)).length = 1
 unfold insT
 rw [if_neg (by simp)]; rfl
def lhA (m : List (List UInt8)) (ws : List Wr) (L : List (List D)) (A B T : List Nod) (i : Nat) (b : Bool) : S := ⟨[(2, .ptr 0 0), (6, .d (.fs 1 L)), (8, .d (.fs 3 (A.map encN))), (10, .d (.fs 3 (B.map encN))), (13, .d (.bl true)), (16, .d (.fs 3 (T.map encN))), (18, .d (.bl b)), (19, .d (.it .i64 (i : Nat)))], [(0, .cells 2 ((encSt m ws).map .d))], 2⟩
theorem lhA_to {m : List (List UInt8)} {ws : List Wr} {L : List (List D)} {A B T : List Nod} {i : Nat} {b c : Bool} {N : Nat} {σ : S} (h : c = b) (q : Wk N σ (lhA m ws L A B T i b)) : Wk N σ (lhA m ws L A B T i c) := by rw [h]; exact q
set_option maxHeartbeats 16000000 in
theorem law37h_yes (m : List (List UInt8)) (hm : ImOK m) (ws : List Wr) (hw : WsOK ws) (x : Nat) (hx : x ≤ 18446744073709551615) (hs : m.length ≤ 65 ∧ ws.length ≤ 8) (hO : OkSt m ws) : FnC Tryz.prog 5 [.dg 2 (encSt m ws), .d (.it .u64 (x : Nat))] (.d (.bl true)) := by
 have hml : (m.map encS).length = m.length := List.length_map ..
 have hwl : (ws.map encW).length = ws.length := List.length_map ..
 have hk := knows37_ok
 have a1 := ctreesR_ok m hm (by omega) ws hw
 have a3 := csure_ok m hm (by omega) ws hw
 have a5 := cperh_ok m hm (by omega) ws hw
 have hcl := close_ok m ws hw hs.2 x hx
 have hand : IntKind.u64.wrap (BitVec.ofInt IntKind.u64.bits (x : Int) &&& BitVec.ofInt IntKind.u64.bits ((6148914691236517205 : Nat) : Int)).toNat = ((x &&& 6148914691236517205 : Nat) : Int) := and64 hx (by decide) rfl
 obtain ⟨k1, k2, k3, k4⟩ := close_in x ws hs.2
 rw [← k2] at hcl
 generalize kG (gC x (esW ws)) ws.length = k at *
 have hO1 := hO.1.1
 have hm0 : m ≠ [] := fun e => by have := hO.1.1; rw [e] at this; simp at this
 have h1 := cimg_ok m hm (by omega) ws hw hs.2 k k3 k4 hO.2.1 hm0
 have hl := imgI_len m ws k ws.length
 have h2 := fromI_ok (imgI m ws k ws.length) (by omega)
 have hI := imgI_ok hm hw k ws.length
 have h3 := tree_ok (some ⟨0, imgI m ws k ws.length, [], [], 0⟩) ⟨hI, (fun w hw => by cases hw), by show (imgI m ws k ws.length).length ≤ 65; omega, by show (0 : Nat) ≤ 100000; omega⟩
 rw [tree_fe (fun n hn => rd_none (imgI m ws k ws.length) n hn)] at h3
 have h3 : FnC Tryz.prog 31 [.d (encD (some ⟨0, imgI m ws k ws.length, [], [], 0⟩))] (.tup [.d (.fs 3 ((treeK m ws k).map encN)), .d (.bl (treeV (imS (imgI m ws k ws.length))).2)]) := h3
 have hmem : treeK m ws k ∈ trsR m ws := (trsR_in m ws hO _).2 ⟨k, k1, rfl⟩
 have hTl := treeK_len m ws k
 have hlL : (encT (trsR m ws)).length = (trsR m ws).length := List.length_map ..
 have hl1 := trsR_len m ws
 have hel := trsR_el m ws
 have hpl : (perhR m ws).length ≤ 64000 := by
  have h1 := ordN_len (trsR m ws).flatten rfl
  have h2 := flat_len hel
  unfold perhR
  omega
 have hsl : (sureR m ws).length ≤ 64000 := Nat.le_trans (List.length_filter_le _ _) hpl
 have i1 := in_ok (sureR m ws) (treeK m ws k) (by omega) (by omega) (sure_tree m ws _ hmem)
 have i2 := in_ok (treeK m ws k) (perhR m ws) (by omega) (by omega) (tree_perh m ws _ hmem)
 have hone : ws.length = 0 → (trsR m ws).length = 1 := fun e => by
  obtain rfl := List.length_eq_zero_iff.1 e
  exact trs_one m hO
 rw [decide_eq_true hO] at a1 a3 a5
 clear k1 k2 k3 k4
 generalize treeK m ws k = T at *
 generalize sureR m ws = A at *
 generalize perhR m ws = B at *
 generalize trsR m ws = L at *
 generalize (treeV (imS (imgI m ws k ws.length))).2 = tb at *
 generalize imgI m ws k ws.length = img at *
 refine FnC.intro ti_ok Tryz.func5 rfl Tryz.ntmps5 Tryz.call5 rfl (Nat.le_of_ble_eq_true rfl) rfl ?_
 unfold encSt at a1 a3 a5 h1 hcl ⊢
 (repeat' ((conv=>whnf);first|with_reducible refine gA ?_|((with_reducible refine draw9_id ?_); refine DrawS.mid ⟨[(2, .ptr 0 0), (6, .d (.fs 1 (encT L))), (7, .d (.bl true)), (8, .d (.fs 3 (A.map encN))), (10, .d (.fs 3 (B.map encN))), (12, .d (encM img)), (13, .d (.bl true))], [(0, .cells 2 ([D.fs 32 (m.map encS), D.fs 36 (ws.map encW)].map .d))], 2⟩ (draw_all ti_ok mixed [2, 2] (by decide +kernel) ?_) ?_) | with_reducible exact trivial | with_reducible refine Br.mk ?_ ?_ | ((with_reducible refine wk_idC ?_); exact Wk.en ⟨And.intro rfl (And.intro rfl (And.intro rfl (And.intro rfl (And.intro rfl (And.intro rfl (And.intro rfl trivial)))))), And.intro rfl trivial, rfl⟩) | ((with_reducible refine callE_id ?_); first | refine CallE.con ⟨_, hk, ?_⟩ | refine CallE.con ⟨_, a1, ?_⟩ | refine CallE.con ⟨_, a3, ?_⟩ | refine CallE.con ⟨_, a5, ?_⟩ | refine CallE.con ⟨_, hcl, ?_⟩ | refine CallE.con ⟨_, h1, ?_⟩ | refine CallE.con ⟨_, h2, ?_⟩ | refine CallE.con ⟨_, h3, ?_⟩) | ((with_reducible refine callP_idH ?_); first | refine CallP.mk ⟨_, hcl, ?_⟩ | refine CallP.mk ⟨_, h1, ?_⟩) | ((with_reducible refine letI_id ?_); refine LetI.as hand ?_) | with_reducible refine AtA.mk' ?_|(with_reducible first|refine gB ?_|refine gZ (fun x hx hu=>?_)|refine gY (fun x hx=>?_)|refine gE ?_|refine Both.mk ?_ ?_|refine gS (fun h=>?_) (fun h=>?_)|refine Spl.nt ?_|refine Spl.mk (fun h=>?_) (fun h=>?_))))
 conv => whnf
 refine loop_ruleW ti_ok (fun i : Nat => i ≤ L.length) (fun i => lhA m ws (encT L) A B T i (decide (T ∈ L.take i))) (fun i => L.length - i) 0 (Nat.zero_le _) (lhA_to (b := false) (by simp) (Wk.en ⟨And.intro rfl (And.intro rfl (And.intro rfl (And.intro rfl (And.intro rfl (And.intro rfl (And.intro rfl (And.intro rfl trivial))))))), And.intro rfl trivial, rfl⟩)) ?_
 intro i hi
 by_cases hil : i < L.length
 ·obtain ⟨t, hti⟩ := lt_get hil
  have htl := hel t (List.mem_of_getElem? hti)
  have hte : (encT L)[i]? = some [.fs 3 (t.map encN)] := by unfold encT; rw [List.getElem?_map, hti]; rfl
  have heq := sameN_ok t T (by omega)
  have hdec : decide (T ∈ L.take (i + 1)) = (decide (T ∈ L.take i) || decide (t = T)) := by
   rw [take_snoc hti, Bool.eq_iff_iff]
   simp only [decide_eq_true_eq, List.mem_append, List.mem_singleton, Bool.or_eq_true]
   exact ⟨fun h => h.imp id Eq.symm, fun h => h.imp id Eq.symm⟩
  generalize decide (T ∈ L.take i) = b at hdec ⊢
  generalize hLL : encT L = LL at *
  unfold lhA encSt
  cases b with
  | true =>
   (repeat' ((conv=>whnf);first|with_reducible refine gA ?_|refine at_some hte ?_ | ((with_reducible refine callE_id ?_); refine CallE.con ⟨_, heq, ?_⟩) | ((with_reducible refine callP_idH ?_); refine CallP.mk ⟨_, heq, ?_⟩) | with_reducible refine AtA.mk' ?_|(with_reducible first|refine gB ?_|refine gZ (fun x hx hu=>?_)|refine gY (fun x hx=>?_)|refine gE ?_|refine Both.mk ?_ ?_|refine gS (fun h=>?_) (fun h=>?_)|refine Spl.nt ?_|refine Spl.mk (fun h=>?_) (fun h=>?_))))
   exact ⟨i + 1, hil, by first | omega | (dsimp only; omega), lhA_to (b := true) hdec (Wk.en ⟨And.intro rfl (And.intro rfl (And.intro rfl (And.intro rfl (And.intro rfl (And.intro rfl (And.intro rfl (And.intro (it_eq (by omega)) trivial))))))), And.intro rfl trivial, rfl⟩)⟩
  | false =>
   (repeat' ((conv=>whnf);first|with_reducible refine gA ?_|refine at_some hte ?_ | ((with_reducible refine callE_id ?_); refine CallE.con ⟨_, heq, ?_⟩) | ((with_reducible refine callP_idH ?_); refine CallP.mk ⟨_, heq, ?_⟩) | with_reducible refine AtA.mk' ?_|(with_reducible first|refine gB ?_|refine gZ (fun x hx hu=>?_)|refine gY (fun x hx=>?_)|refine gE ?_|refine Both.mk ?_ ?_|refine gS (fun h=>?_) (fun h=>?_)|refine Spl.nt ?_|refine Spl.mk (fun h=>?_) (fun h=>?_))))
   exact ⟨i + 1, hil, by first | omega | (dsimp only; omega), lhA_to (b := decide (t = T)) (hdec.trans (Bool.false_or _)) (Wk.en ⟨And.intro rfl (And.intro rfl (And.intro rfl (And.intro rfl (And.intro rfl (And.intro rfl (And.intro rfl (And.intro (it_eq (by omega)) trivial))))))), And.intro rfl trivial, rfl⟩)⟩
 ·have hie : L.take i = L := List.take_of_length_le (by omega)
  rw [hie, decide_eq_true hmem]
  unfold lhA encSt
  (repeat' ((conv=>whnf);first|with_reducible refine gA ?_|((with_reducible refine callE_id ?_); first | refine CallE.con ⟨_, i1, ?_⟩ | refine CallE.con ⟨_, i2, ?_⟩) | ((with_reducible refine callP_idH ?_); first | refine CallP.mk ⟨_, i1, ?_⟩ | refine CallP.mk ⟨_, i2, ?_⟩) | with_reducible refine AtA.mk' ?_|(with_reducible first|refine gB ?_|refine gZ (fun x hx hu=>?_)|refine gY (fun x hx=>?_)|refine gE ?_|refine Both.mk ?_ ?_|refine gS (fun h=>?_) (fun h=>?_)|refine Spl.nt ?_|refine Spl.mk (fun h=>?_) (fun h=>?_))))
  ·rfl
  ·exact bl_eq (by rw [hlL, hone (by omega)]; rfl)
end Go.Proofs.YthknbpijaoljgaaGreatDoor
namespace Go.Proofs.YthknbpijaoljgaaGreatDoor
open Go.Sy
set_option maxHeartbeats 16000000 in
theorem law37h_rng (m : List (List UInt8)) (hm : ImOK m) (ws : List Wr) (hw : WsOK ws) (x : Nat) (hx : x ≤ 18446744073709551615) (hs : m.length ≤ 65 ∧ ws.length ≤ 8) (hO : ¬ OkSt m ws) (hR : ¬ RngP m ws) : FnC Tryz.prog 5 [.dg 2 (encSt m ws), .d (.it .u64 (x : Nat))] (.d (.bl true)) := by
 have hml : (m.map encS).length = m.length := List.length_map ..
 have hwl : (ws.map encW).length = ws.length := List.length_map ..
 have hk := knows37_ok
 have a1 := ctreesR_ok m hm (by omega) ws hw
 have a3 := csure_ok m hm (by omega) ws hw
 have a5 := cperh_ok m hm (by omega) ws hw
 have hcl := close_ok m ws hw hs.2 x hx
 have hand : IntKind.u64.wrap (BitVec.ofInt IntKind.u64.bits (x : Int) &&& BitVec.ofInt IntKind.u64.bits ((6148914691236517205 : Nat) : Int)).toNat = ((x &&& 6148914691236517205 : Nat) : Int) := and64 hx (by decide) rfl
 obtain ⟨k1, k2, k3, k4⟩ := close_in x ws hs.2
 rw [← k2] at hcl
 generalize kG (gC x (esW ws)) ws.length = k at *
 have h1 := cimg_no m ws hw hs.2 k k3 hR
 rw [decide_eq_false hO] at a1 a3 a5
 clear k1 k2 k3 k4
 generalize trsR m ws = L at *
 generalize sureR m ws = A at *
 generalize perhR m ws = B at *
 refine FnC.intro ti_ok Tryz.func5 rfl Tryz.ntmps5 Tryz.call5 rfl (Nat.le_of_ble_eq_true rfl) rfl ?_
 unfold encSt at a1 a3 a5 h1 hcl ⊢
 (repeat' ((conv=>whnf);first|with_reducible refine gA ?_|((with_reducible refine draw9_id ?_); refine DrawS.mid ⟨[(2, .ptr 0 0), (7, .d (.bl false)), (13, .d (.bl false))], [(0, .cells 2 ([D.fs 32 (m.map encS), D.fs 36 (ws.map encW)].map .d))], 2⟩ (draw_all ti_ok mixed [2, 2] (by decide +kernel) ?_) ?_) | with_reducible exact trivial | with_reducible refine Br.mk ?_ ?_ | ((with_reducible refine wk_idC ?_); exact Wk.en ⟨And.intro rfl (And.intro rfl (And.intro rfl trivial)), And.intro rfl trivial, rfl⟩) | ((with_reducible refine callE_id ?_); first | refine CallE.con ⟨_, hk, ?_⟩ | refine CallE.con ⟨_, a1, ?_⟩ | refine CallE.con ⟨_, a3, ?_⟩ | refine CallE.con ⟨_, a5, ?_⟩ | refine CallE.con ⟨_, hcl, ?_⟩ | refine CallE.con ⟨_, h1, ?_⟩) | ((with_reducible refine callP_idH ?_); first | refine CallP.mk ⟨_, hcl, ?_⟩ | refine CallP.mk ⟨_, h1, ?_⟩) | ((with_reducible refine letI_id ?_); refine LetI.as hand ?_) | with_reducible refine AtA.mk' ?_|(with_reducible first|refine gB ?_|refine gZ (fun x hx hu=>?_)|refine gY (fun x hx=>?_)|refine gE ?_|refine Both.mk ?_ ?_|refine gS (fun h=>?_) (fun h=>?_)|refine Spl.nt ?_|refine Spl.mk (fun h=>?_) (fun h=>?_))))
 all_goals rfl
set_option maxHeartbeats 16000000 in
theorem law37h_nil (x : Nat) (hx : x ≤ 18446744073709551615) : FnC Tryz.prog 5 [.dg 2 (encSt [] []), .d (.it .u64 (x : Nat))] (.d (.bl true)) := by
 have hm : ImOK [] := fun s hs => by cases hs
 have hw : WsOK [] := fun s hs => by cases hs
 have hO : ¬ OkSt [] [] := fun h => by have := h.1.1; simp at this
 have hk := knows37_ok
 have a1 := ctreesR_ok [] hm (by decide) [] hw
 have a3 := csure_ok [] hm (by decide) [] hw
 have a5 := cperh_ok [] hm (by decide) [] hw
 have hcl : FnC Tryz.prog 29 [.dg 2 (encSt [] []), .d (.it .u64 ((x &&& 6148914691236517205 : Nat) : Int))] (.d (.it .u64 0)) := close_ok [] [] hw (by decide) x hx
 have h1 := cimg_nil
 have hand : IntKind.u64.wrap (BitVec.ofInt IntKind.u64.bits (x : Int) &&& BitVec.ofInt IntKind.u64.bits ((6148914691236517205 : Nat) : Int)).toNat = ((x &&& 6148914691236517205 : Nat) : Int) := and64 hx (by decide) rfl
 rw [decide_eq_false hO] at a1 a3 a5
 generalize trsR [] [] = L at *
 generalize sureR [] [] = A at *
 generalize perhR [] [] = B at *
 refine FnC.intro ti_ok Tryz.func5 rfl Tryz.ntmps5 Tryz.call5 rfl (Nat.le_of_ble_eq_true rfl) rfl ?_
 unfold encSt at a1 a3 a5 h1 hcl ⊢
 (repeat' ((conv=>whnf);first|with_reducible refine gA ?_|((with_reducible refine draw9_id ?_); refine DrawS.mid ⟨[(2, .ptr 0 0), (7, .d (.bl false)), (13, .d (.bl true))], [(0, .cells 2 ([D.fs 32 (([] : List (List UInt8)).map encS), D.fs 36 (([] : List Wr).map encW)].map .d))], 2⟩ (draw_all ti_ok mixed [2, 2] (by decide +kernel) ?_) ?_) | with_reducible exact trivial | with_reducible refine Br.mk ?_ ?_ | ((with_reducible refine wk_idC ?_); exact Wk.en ⟨And.intro rfl (And.intro rfl (And.intro rfl trivial)), And.intro rfl trivial, rfl⟩) | ((with_reducible refine callE_id ?_); first | refine CallE.con ⟨_, hk, ?_⟩ | refine CallE.con ⟨_, a1, ?_⟩ | refine CallE.con ⟨_, a3, ?_⟩ | refine CallE.con ⟨_, a5, ?_⟩ | refine CallE.con ⟨_, hcl, ?_⟩ | refine CallE.con ⟨_, h1, ?_⟩) | ((with_reducible refine callP_idH ?_); first | refine CallP.mk ⟨_, hcl, ?_⟩ | refine CallP.mk ⟨_, h1, ?_⟩) | ((with_reducible refine letI_id ?_); refine LetI.as hand ?_) | with_reducible refine AtA.mk' ?_|(with_reducible first|refine gB ?_|refine gZ (fun x hx hu=>?_)|refine gY (fun x hx=>?_)|refine gE ?_|refine Both.mk ?_ ?_|refine gS (fun h=>?_) (fun h=>?_)|refine Spl.nt ?_|refine Spl.mk (fun h=>?_) (fun h=>?_))))
 all_goals rfl
set_option maxHeartbeats 16000000 in
theorem law37h_ok (m : List (List UInt8)) (hm : ImOK m) (ws : List Wr) (hw : WsOK ws) (x : Nat) (hx : x ≤ 18446744073709551615) : FnC Tryz.prog 5 [.dg 2 (encSt m ws), .d (.it .u64 (x : Nat))] (.d (.bl true)) := by
 have hml : (m.map encS).length = m.length := List.length_map ..
 have hwl : (ws.map encW).length = ws.length := List.length_map ..
 have hk := knows37_ok
 by_cases hs : m.length ≤ 65 ∧ ws.length ≤ 8
 ·by_cases hO : OkSt m ws
  ·exact law37h_yes m hm ws hw x hx hs hO
  ·by_cases hR : RngP m ws
   ·have hm0 : m = [] := by
     cases m with
     | nil => rfl
     | cons a t => exact absurd ⟨⟨by simp, hs.1⟩, hR, hs.2⟩ hO
    subst hm0
    have hw0 : ws = [] := by
     cases ws with
     | nil => rfl
     | cons w t => have := hR w List.mem_cons_self; simp at this; omega
    subst hw0
    exact law37h_nil x hx
   ·exact law37h_rng m hm ws hw x hx hs hO hR
 ·refine FnC.intro ti_ok Tryz.func5 rfl Tryz.ntmps5 Tryz.call5 rfl (Nat.le_of_ble_eq_true rfl) rfl ?_
  unfold encSt
  by_cases h1 : m.length ≤ 65
  all_goals by_cases h2 : ws.length ≤ 8
  all_goals (repeat' ((conv=>whnf);first|with_reducible refine gA ?_|((with_reducible refine callE_id ?_); (refine CallE.con ⟨_, hk, ?_⟩))|(with_reducible first|refine gB ?_|refine gZ (fun x hx hu=>?_)|refine gY (fun x hx=>?_)|refine gE ?_|refine Both.mk ?_ ?_|refine gS (fun h=>?_) (fun h=>?_)|refine Spl.nt ?_|refine Spl.mk (fun h=>?_) (fun h=>?_))))
  all_goals first | rfl | (exfalso; omega)
end Go.Proofs.YthknbpijaoljgaaGreatDoor
