/- Contracts of the functions that the law reaches, and the law. Conditions: none. -/
import Derived.Test.YthknbpijaoljgaaGreatDoorKA
import Derived.Test.YthknbpijaoljgaaGreatDoorSD
set_option maxRecDepth 100000
set_option linter.all false
namespace Go.Proofs.YthknbpijaoljgaaGreatDoor
open Go.Sy
def imgD (d : Option Dk) : List (List UInt8) := match d with
 | none => []
 | some dk => (List.range dk.safe.length).map fun k : Nat => rdS d (k : Nat)
theorem imgD_ok {d : Option Dk} (h : DkOK d) : ImOK (imgD d) := by
 intro s hs
 cases d with
 | none => cases hs
 | some dk =>
  obtain ⟨k, _, rfl⟩ := List.mem_map.1 hs
  exact rdS_len h _
theorem chunk1 {l : List D} {n : Nat} (h : l.length = n) : chunk n 1 ([] ++ l ++ []) = [l] := by
 show [([] ++ l ++ []).take n] = _
 rw [List.nil_append, List.append_nil, List.take_of_length_le (by omega)]
theorem vx_eq {sz n i a b : Nat} (h : a = b) : AV.vx sz n i a = AV.vx sz n i b := by rw [h]
theorem vec_eq {t sz : Nat} {a b : List (List D)} {f : Bool} (h : a = b) : Ob.vec t sz a f = Ob.vec t sz b f := by rw [h]
theorem set_enc {L : List (List UInt8)} {s : List UInt8} {j k : Nat} (hj : j = k) (hk : k < L.length) : (L.map encS).take j ++ [encS s] ++ (L.map encS).drop (j + 1) = (L.set k s).map encS := by
 subst hj
 rw [List.set_eq_take_append_cons_drop, if_pos hk, List.map_append, List.map_cons, List.map_take, List.map_drop, List.append_assoc]; rfl
def mtA (d : Option Dk) (i : Nat) : S := ⟨[(0, .d (encD d)), (3, .ts 32 (((List.range i).map fun k : Nat => rdS d (k : Nat)).map encS) 0), (7, .d (.it .i64 (i : Nat)))], [(0, .tail 34 true)], 1⟩
set_option maxHeartbeats 4000000 in
theorem mounted_ok (d : Option Dk) (hd : DkOK d) : FnC Tryz.prog 46 [.d (encD d)] (.d (.bl (decide (mntP (imgD d))))) := by
 have hm := mounts_ok _ (imgD_ok hd)
 have hil : (imgD d).length ≤ 65 := by
  cases d with
  | none => exact Nat.zero_le _
  | some dk =>
   show ((List.range dk.safe.length).map _).length ≤ 65
   rw [List.length_map, List.length_range]; exact hd.2.2.1
 have hhas : ∀ i : Nat, hasP d i ↔ i < (imgD d).length := fun i => by
  cases d with
  | none => exact ⟨fun h => h.elim, fun h => absurd h (Nat.not_lt_zero _)⟩
  | some dk =>
   show (0 ≤ (i : Int) ∧ (i : Int) < dk.safe.length) ↔ i < ((List.range dk.safe.length).map _).length
   rw [List.length_map, List.length_range]; omega
 have himg : ((List.range (imgD d).length).map fun k : Nat => rdS d (k : Nat)) = imgD d := by
  cases d with
  | none => rfl
  | some dk =>
   show ((List.range ((List.range dk.safe.length).map _).length).map _) = _
   rw [List.length_map, List.length_range]; rfl
 refine FnC.intro ti_ok Tryz.func46 rfl Tryz.ntmps46 Tryz.call46 rfl (Nat.le_of_ble_eq_true rfl) rfl ?_
 (repeat' ((conv=>whnf);first|with_reducible refine gA ?_|(with_reducible first|refine gB ?_|refine gZ (fun x hx hu=>?_)|refine gY (fun x hx=>?_)|refine gE ?_|refine Both.mk ?_ ?_|refine gS (fun h=>?_) (fun h=>?_)|refine Spl.nt ?_|refine Spl.mk (fun h=>?_) (fun h=>?_))))
 refine loop_rule ti_ok (fun i : Nat => i ≤ (imgD d).length) (mtA d) (fun i => 66 - i) 0 (Nat.zero_le _) ⟨And.intro rfl (And.intro rfl (And.intro rfl trivial)), And.intro rfl trivial, rfl⟩ ?_
 intro i hi
 have hr := read_ok d hd i
 have hlen : (((List.range i).map fun k : Nat => rdS d (k : Nat)).map encS).length = i := by simp
 rcases Nat.lt_or_ge i (imgD d).length with hlt | hge
 ·rw [show rdE d i = 0 from if_pos ((hhas i).2 hlt)] at hr
  have hs := rdS_len hd i
  have hrl : (List.range i).length = i := List.length_range
  (repeat' ((conv=>whnf);first|with_reducible refine gA ?_|((with_reducible refine callE_id ?_); (refine CallE.con ⟨_, hr, ?_⟩)) | ((with_reducible refine letC_id ?_); refine LetC.mk ((encS (rdS d i)).map AV.d) (st_all _) ?_) | ((with_reducible refine atA_id ?_); refine AtA.eq (ld_sec rfl rfl hs) ?_)|(with_reducible first|refine gB ?_|refine gZ (fun x hx hu=>?_)|refine gY (fun x hx=>?_)|refine gE ?_|refine Both.mk ?_ ?_|refine gS (fun h=>?_) (fun h=>?_)|refine Spl.nt ?_|refine Spl.mk (fun h=>?_) (fun h=>?_))))
  refine again (i + 1) (by omega) (by dsimp only; omega) (And.intro rfl (And.intro (ts_eq ?_) (And.intro (it_eq (by omega)) trivial))) (And.intro rfl trivial) rfl
  rw [List.range_succ, List.map_append, List.map_append]
  exact congrArg _ (chunk1 (by rw [encS_len]; exact hs))
 ·have hie : i = (imgD d).length := by omega
  rw [show rdE d i = 1 from if_neg (fun q => by have := (hhas i).1 q; omega)] at hr
  have hmi : FnC Tryz.prog 95 [.d (.fs 32 ((((List.range i).map fun k : Nat => rdS d (k : Nat))).map encS))] (.d (.bl (decide (mntP (imgD d))))) := by rw [hie, himg]; exact hm
  by_cases h65 : i < 65
  ·(repeat' ((conv=>whnf);first|with_reducible refine gA ?_|((with_reducible refine callE_id ?_); first | (refine CallE.con ⟨_, hr, ?_⟩) | (refine CallE.con ⟨_, hmi, ?_⟩)) | ((with_reducible refine letC_id ?_); refine LetC.mk ((encS (rdS d i)).map AV.d) (st_all _) ?_)|(with_reducible first|refine gB ?_|refine gZ (fun x hx hu=>?_)|refine gY (fun x hx=>?_)|refine gE ?_|refine Both.mk ?_ ?_|refine gS (fun h=>?_) (fun h=>?_)|refine Spl.nt ?_|refine Spl.mk (fun h=>?_) (fun h=>?_))))
   rfl
  ·(repeat' ((conv=>whnf);first|with_reducible refine gA ?_|((with_reducible refine callE_id ?_); (refine CallE.con ⟨_, hmi, ?_⟩))|(with_reducible first|refine gB ?_|refine gZ (fun x hx hu=>?_)|refine gY (fun x hx=>?_)|refine gE ?_|refine Both.mk ?_ ?_|refine gS (fun h=>?_) (fun h=>?_)|refine Spl.nt ?_|refine Spl.mk (fun h=>?_) (fun h=>?_))))
   rfl
def putW (m : List (List UInt8)) (w : Wr) : List (List UInt8) := if 0 ≤ w.a ∧ w.a < m.length then m.set w.a.toNat w.s else m
def putWs (m : List (List UInt8)) (ws : List Wr) : List (List UInt8) := ws.foldl putW m
def withF (m : List (List UInt8)) (ws : List Wr) : List (List UInt8) := if 1 ≤ m.length ∧ m.length ≤ 65 then putWs m ws else []
theorem putW_len (m : List (List UInt8)) (w : Wr) : (putW m w).length = m.length := by unfold putW; split <;> simp
theorem putWs_len (m : List (List UInt8)) : ∀ ws : List Wr, (putWs m ws).length = m.length := by
 intro ws
 induction ws generalizing m with
 | nil => rfl
 | cons w t ih =>
  show (putWs (putW m w) t).length = _
  rw [ih, putW_len]
theorem putWs_snoc (m : List (List UInt8)) {ws : List Wr} {i : Nat} {x : Wr} (hx : ws[i]? = some x) : putWs m (ws.take (i + 1)) = putW (putWs m (ws.take i)) x := by
 unfold putWs
 rw [take_snoc hx, List.foldl_append]; rfl
def wiA (m : List (List UInt8)) (ws : List Wr) (i : Nat) : S := ⟨[(0, .d (encM m)), (1, .d (.fs 36 (ws.map encW))), (5, .vx 32 1 0 m.length), (6, .d (.it .i64 (i : Nat)))], [(1, .vec 34 32 ((putWs m (ws.take i)).map encS) false)], 2⟩
set_option maxHeartbeats 4000000 in
theorem with_ok (m : List (List UInt8)) (hm : ImOK m) (ws : List Wr) (hw : WsOK ws) (hml : m.length ≤ 1000) (hwl : ws.length ≤ 1000) : FnC Tryz.prog 13 [.d (encM m), .d (.fs 36 (ws.map encW))] (.d (encM (withF m ws))) := by
 have hml' : (m.map encS).length = m.length := List.length_map ..
 have hwl' : (ws.map encW).length = ws.length := List.length_map ..
 refine FnC.intro ti_ok Tryz.func13 rfl Tryz.ntmps13 Tryz.call13 rfl (Nat.le_of_ble_eq_true rfl) rfl ?_
 by_cases h : 1 ≤ m.length ∧ m.length ≤ 65
 ·rw [show withF m ws = putWs m ws from if_pos h]
  (repeat' ((conv=>whnf);first|with_reducible refine gA ?_|((with_reducible refine nils_id ?_); first | refine NilS.vec ⟨rfl, ?_⟩ | refine NilS.ts ?_)|(with_reducible first|refine gB ?_|refine gZ (fun x hx hu=>?_)|refine gY (fun x hx=>?_)|refine gE ?_|refine Both.mk ?_ ?_|refine gS (fun h=>?_) (fun h=>?_)|refine Spl.nt ?_|refine Spl.mk (fun h=>?_) (fun h=>?_))))
  refine loop_rule ti_ok (fun i : Nat => i ≤ ws.length) (wiA m ws) (fun i => ws.length - i) 0 (Nat.zero_le _) ⟨And.intro rfl (And.intro rfl (And.intro (vx_eq hml') (And.intro rfl trivial))), And.intro rfl trivial, rfl⟩ ?_
  intro i hi
  have hpl := putWs_len m (ws.take i)
  have hpl' : ((putWs m (ws.take i)).map encS).length = m.length := by rw [List.length_map, hpl]
  rcases Nat.lt_or_ge i ws.length with hil | hil
  ·obtain ⟨x, hx⟩ := lt_get hil
   have hxs := hw x (List.mem_of_getElem? hx)
   have hstep := putWs_snoc m hx
   obtain ⟨xa, xs, xk, xi, xe⟩ := x
   obtain ⟨g, rfl⟩ := is32 hxs
   (repeat' ((conv=>whnf);first|with_reducible refine gA ?_|with_reducible refine at_hm hx ?_|(with_reducible first|refine gB ?_|refine gZ (fun x hx hu=>?_)|refine gY (fun x hx=>?_)|refine gE ?_|refine Both.mk ?_ ?_|refine gS (fun h=>?_) (fun h=>?_)|refine Spl.nt ?_|refine Spl.mk (fun h=>?_) (fun h=>?_))))
   all_goals (refine again (i + 1) (by omega) (by dsimp only; omega) (And.intro rfl (And.intro rfl (And.intro rfl (And.intro (it_eq (by omega)) trivial)))) (And.intro (vec_eq ?_) trivial) rfl)
   all_goals first
    | (rw [hstep]; unfold putW; rw [if_neg (by dsimp only at *; omega)])
    | (rw [hstep]; unfold putW; rw [if_pos (by dsimp only at *; omega)]; refine set_enc (s := sec32 g) (k := xa.toNat) (Nat.zero_add _) ?_; rw [hpl]; dsimp only at *; omega)
  ·have hie : i = ws.length := by omega
   have hlast : putWs m (ws.take i) = putWs m ws := by rw [hie, List.take_length]
   rw [hlast] at hpl'
   unfold wiA
   rw [hlast]
   (repeat' ((conv=>whnf);first|with_reducible refine gA ?_|(with_reducible first|refine gB ?_|refine gZ (fun x hx hu=>?_)|refine gY (fun x hx=>?_)|refine gE ?_|refine Both.mk ?_ ?_|refine gS (fun h=>?_) (fun h=>?_)|refine Spl.nt ?_|refine Spl.mk (fun h=>?_) (fun h=>?_))))
   refine fs_eq ?_
   rw [List.drop_zero, List.take_of_length_le (by rw [hpl']; exact Nat.le_refl _)]
 ·rw [show withF m ws = [] from if_neg h]
  (repeat' ((conv=>whnf);first|with_reducible refine gA ?_|(with_reducible first|refine gB ?_|refine gZ (fun x hx hu=>?_)|refine gY (fun x hx=>?_)|refine gE ?_|refine Both.mk ?_ ?_|refine gS (fun h=>?_) (fun h=>?_)|refine Spl.nt ?_|refine Spl.mk (fun h=>?_) (fun h=>?_))))
  all_goals first | rfl | (exfalso; omega)
end Go.Proofs.YthknbpijaoljgaaGreatDoor
namespace Go.Proofs.YthknbpijaoljgaaGreatDoor
open Go.Sy
def stdP (f : Int → List UInt8) (p : Int) (k : Nat) : Prop := (entAt f k).u = true ∧ (entAt f k).p = p ∧ (inoAt f (entAt f k).t).k ≠ 0
instance (f : Int → List UInt8) (p : Int) (k : Nat) : Decidable (stdP f p k) := by unfold stdP; infer_instance
def fndP (f : Int → List UInt8) (p : Int) (s : List UInt8) (k : Nat) : Prop := stdP f p k ∧ (entAt f k).n = s
instance (f : Int → List UInt8) (p : Int) (s : List UInt8) (k : Nat) : Decidable (fndP f p s k) := by unfold fndP; infer_instance
def fndK (f : Int → List UInt8) (p : Int) (s : List UInt8) : Option Nat := (List.range 24).find? fun k => decide (fndP f p s k)
end Go.Proofs.YthknbpijaoljgaaGreatDoor
namespace Go.Proofs.YthknbpijaoljgaaGreatDoor
open Go.Sy
def nmsK (f : Int → List UInt8) (p : Int) (k : Nat) : List (List UInt8) := ((List.range k).filter fun j => decide (stdP f p j)).map fun j : Nat => (entAt f (j : Nat)).n
theorem letE_id {e : List (List D)} {K : List (List D) → Prop} (h : LetE e K) : LetE e K := h
end Go.Proofs.YthknbpijaoljgaaGreatDoor
namespace Go.Proofs.YthknbpijaoljgaaGreatDoor
open Go.Sy
def stepV (f : Int → List UInt8) (n : Int) (s : List UInt8) : Int × Int := if (inoAt f n).k = 2 then (match fndK f n s with | none => (0, 4) | some k => ((entAt f (k : Nat)).t, 0)) else (0, 6)
def lkp (f : Int → List UInt8) : List (List UInt8) → Int → Int × Int
 | [], n => (n, 0)
 | s :: t, n => if (stepV f n s).2 = 0 then lkp f t (stepV f n s).1 else (0, (stepV f n s).2)
def lookP (f : Int → List UInt8) (p : List UInt8) : Int × Int := if (splitP p).2 = 0 then lkp f (splitP p).1 0 else (0, (splitP p).2)
end Go.Proofs.YthknbpijaoljgaaGreatDoor
namespace Go.Proofs.YthknbpijaoljgaaGreatDoor
open Go.Sy
theorem lastAt_snoc (n : Int) (l : List Wr) (x : Wr) : lastAt n (l ++ [x]) = if x.a = n then some x.s else lastAt n l := by
 unfold lastAt
 rw [List.reverse_append]
 simp only [List.reverse_cons, List.reverse_nil, List.nil_append, List.singleton_append, List.find?_cons]
 by_cases h : x.a = n
 ·simp [h]
 ·simp [h]
theorem read_eq (m : List (List UInt8)) : ∀ (k : Nat) (ws : List Wr), ws.length = k → ∀ n : Int, 0 ≤ n → n < m.length →
  (match lastAt n (wts m.length ws) with | some s => s | none => m.getD n.toNat zeroS) = imS (putWs m ws) n := by
 intro k
 induction k with
 | zero =>
  intro ws hk n h0 h1
  obtain rfl := List.length_eq_zero_iff.1 hk
  rfl
 | succ k ih =>
  intro ws hk n h0 h1
  obtain ⟨t, x, rfl⟩ : ∃ t x, ws = t ++ [x] := ⟨ws.dropLast, ws.getLast (by intro h; rw [h] at hk; cases hk), (List.dropLast_concat_getLast _).symm⟩
  have ht : t.length = k := by simpa using hk
  have ih' := ih t ht n h0 h1
  have hp : putWs m (t ++ [x]) = putW (putWs m t) x := by unfold putWs; rw [List.foldl_append]; rfl
  have hw : wts m.length (t ++ [x]) = if 0 ≤ x.a ∧ x.a < m.length then wts m.length t ++ [{ x with e := 0 }] else wts m.length t := by
   unfold wts
   rw [List.filter_append, List.map_append]
   by_cases h : 0 ≤ x.a ∧ x.a < m.length
   ·rw [if_pos h]
    have : okW m.length x = true := decide_eq_true h
    simp [this]
   ·rw [if_neg h]
    have : okW m.length x = false := decide_eq_false h
    simp [this]
  rw [hp, hw]
  have hl := putWs_len m t
  by_cases h : 0 ≤ x.a ∧ x.a < m.length
  ·rw [if_pos h, lastAt_snoc]
   unfold putW
   rw [hl, if_pos h]
   by_cases hn : x.a = n
   ·rw [if_pos (by simpa using hn)]
    unfold imS
    rw [hn]
    show x.s = ((putWs m t).set n.toNat x.s).getD n.toNat zeroS
    rw [List.getD_eq_getElem?_getD, List.getElem?_set_self (by rw [hl]; omega)]; rfl
   ·rw [if_neg (by simpa using hn), ih']
    unfold imS
    rw [List.getD_eq_getElem?_getD, List.getD_eq_getElem?_getD, List.getElem?_set_ne (by omega)]
  ·rw [if_neg h]
   unfold putW
   rw [hl, if_neg h]
   exact ih'
theorem rd_im (m : List (List UInt8)) (ws : List Wr) (n : Int) (h0 : 0 ≤ n) : rdS (dskOf m ws) n = imS (withF m ws) n := by
 unfold dskOf withF
 by_cases h : 1 ≤ m.length ∧ m.length ≤ 65
 ·rw [if_pos h, if_pos h]
  simp only [rdS]
  by_cases hn : 0 ≤ n ∧ n < m.length
  ·rw [if_pos hn]; exact read_eq m _ ws rfl n hn.1 hn.2
  ·rw [if_neg hn]
   unfold imS
   rw [List.getD_eq_getElem?_getD, List.getElem?_eq_none (by rw [putWs_len]; omega)]; rfl
 ·rw [if_neg h, if_neg h]
  unfold imS
  simp [rdS]
theorem dsk_OK {m : List (List UInt8)} {ws : List Wr} (hm : ImOK m) (hw : WsOK ws) (hwl : ws.length ≤ 1000) : DkOK (dskOf m ws) := by
 unfold dskOf
 split
 ·rename_i h
  refine ⟨hm, fun w hw' => ?_, h.2, ?_⟩
  ·have hw' : w ∈ (ws.filter (okW m.length)).map fun w => { w with e := 0 } := hw'
   obtain ⟨x, hx, rfl⟩ := List.mem_map.1 hw'
   exact hw x (List.mem_filter.1 hx).1
  ·show ((ws.filter (okW m.length)).map _).length ≤ 100000
   rw [List.length_map]
   have := List.length_filter_le (okW m.length) ws
   omega
 ·trivial
theorem putWs_ok {m : List (List UInt8)} (hm : ImOK m) : ∀ {ws : List Wr}, WsOK ws → ImOK (putWs m ws) := by
 intro ws
 induction ws generalizing m with
 | nil => intro _; exact hm
 | cons x t ih =>
  intro hw
  refine ih (m := putW m x) (fun s hs => ?_) (fun w hw' => hw w (List.mem_cons_of_mem _ hw'))
  unfold putW at hs
  split at hs
  ·rcases List.mem_or_eq_of_mem_set hs with hs | rfl
   ·exact hm s hs
   ·exact hw x List.mem_cons_self
  ·exact hm s hs
theorem with_OK {m : List (List UInt8)} {ws : List Wr} (hm : ImOK m) (hw : WsOK ws) : ImOK (withF m ws) := by
 unfold withF
 split
 ·exact putWs_ok hm hw
 ·intro s hs; cases hs
theorem inoAt_eq {f g : Int → List UInt8} (h : ∀ n : Int, 0 ≤ n → f n = g n) (n : Int) : inoAt f n = inoAt g n := by
 unfold inoAt
 split
 ·rw [h _ (by omega)]
 ·rfl
theorem entAt_eq {f g : Int → List UInt8} (h : ∀ n : Int, 0 ≤ n → f n = g n) (n : Int) : entAt f n = entAt g n := by
 unfold entAt
 split
 ·rw [h _ (by omega)]
 ·rfl
end Go.Proofs.YthknbpijaoljgaaGreatDoor
namespace Go.Proofs.YthknbpijaoljgaaGreatDoor
open Go.Sy
def folderS : List UInt8 := [2, 0, 0, 0, 0, 0, 0, 0, 0, 0, 0, 0, 0, 0, 0, 0, 0, 0, 0, 0, 0, 0, 0, 0, 0, 0, 0, 0, 0, 0, 0, 0]
def emptyM : List (List UInt8) := superS :: folderS :: List.replicate 63 zeroS
def k1S : List UInt8 := [1, 0, 2, 1, 0, 0, 0, 0, 0, 0, 0, 0, 0, 0, 0, 0, 97, 0, 0, 0, 0, 0, 0, 0, 0, 0, 0, 0, 0, 0, 0, 0]
def k2S : List UInt8 := [1, 0, 0, 0, 0, 0, 0, 0, 0, 0, 0, 0, 0, 0, 0, 0, 0, 0, 0, 0, 0, 0, 0, 0, 0, 0, 0, 0, 0, 0, 0, 0]
def kW : List Wr := [⟨17, k1S, 0, 0, 0⟩, ⟨3, k2S, 0, 0, 0⟩]
theorem em_ok : ImOK emptyM := by
 intro s hs
 simp only [emptyM, List.mem_cons, List.mem_replicate] at hs
 rcases hs with rfl | rfl | ⟨_, rfl⟩ <;> rfl
theorem empty_ok : FnC Tryz.prog 33 [] (.d (encM emptyM)) := by
 have hs := refSuper_ok
 refine FnC.intro ti_ok Tryz.func33 rfl Tryz.ntmps33 Tryz.call33 rfl (Nat.le_of_ble_eq_true rfl) rfl ?_
 (repeat' ((conv=>whnf);first|with_reducible refine gA ?_|((with_reducible refine callE_id ?_); (refine CallE.con ⟨_, hs, ?_⟩))|(with_reducible first|refine gB ?_|refine gZ (fun x hx hu=>?_)|refine gY (fun x hx=>?_)|refine gE ?_|refine Both.mk ?_ ?_|refine gS (fun h=>?_) (fun h=>?_)|refine Spl.nt ?_|refine Spl.mk (fun h=>?_) (fun h=>?_))))
 refine ⟨emptyM.map encS, ⟨?_, ?_, ?_, ?_⟩, ?_⟩
 ·exact Nat.le_of_ble_eq_true (by kernel_rfl)
 ·kernel_rfl
 ·intro x hx
  obtain ⟨s, hs, rfl⟩ := List.mem_map.1 hx
  rw [encS_len]; exact em_ok s hs
 ·kernel_rfl
 ·rfl
def kD : Option Dk := dskOf emptyM kW
theorem f1 : lookP (rdS kD) [47, 97] = (2, 0) := by decide +kernel
theorem f2 : fndK (rdS kD) 0 [97] = some 0 := by decide +kernel
theorem f3 : lookP (rdS kD) [47, 98] = (0, 4) := by decide +kernel
theorem f4 : mntP (imgD kD) := by decide +kernel
theorem f5 : nmsK (rdS kD) 0 24 = [[97]] := by decide +kernel
theorem f6 : takP (rdS kD) 2 := by decide +kernel
end Go.Proofs.YthknbpijaoljgaaGreatDoor
namespace Go.Proofs.YthknbpijaoljgaaGreatDoor
open Go.Sy
end Go.Proofs.YthknbpijaoljgaaGreatDoor
namespace Go.Proofs.YthknbpijaoljgaaGreatDoor
open Go.Sy
def stepR (kd : Int → Int) (R : List Bool) (x : Ent) : List Bool :=
 if x.u = true ∧ R.getD x.p.toNat false = true ∧ kd x.p = 2 ∧ kd x.t ≠ 0 then R.set x.t.toNat true else R
def passR (kd : Int → Int) (E : List Ent) (R : List Bool) : List Bool := E.foldl (stepR kd) R
def iterR (kd : Int → Int) (E : List Ent) : Nat → List Bool → List Bool
 | 0, R => R
 | n + 1, R => iterR kd E n (passR kd E R)
def cntR (R : List Bool) : Nat := R.countP (fun b => b)
theorem cntR_set : ∀ (R : List Bool) (i : Nat), i < R.length → R.getD i false = false → cntR (R.set i true) = cntR R + 1
 | [], i, h, _ => by cases h
 | b :: R, 0, _, h => by
  have h : b = false := h
  subst h
  simp [cntR]
 | b :: R, i + 1, h, h2 => by
  have ih := cntR_set R i (by simpa using h) (by simpa [List.getD] using h2)
  unfold cntR at ih ⊢
  rw [List.set_cons_succ, List.countP_cons, List.countP_cons, ih]; omega
theorem set_same : ∀ (R : List Bool) (i : Nat), R.getD i false = true → R.set i true = R
 | [], i, _ => rfl
 | b :: R, 0, h => by
  have h : b = true := h
  subst h; rfl
 | b :: R, i + 1, h => by rw [List.set_cons_succ, set_same R i (by simpa [List.getD] using h)]
theorem set_out (R : List Bool) (i : Nat) (h : R.length ≤ i) : R.set i true = R := List.set_eq_of_length_le h
def turnsR (kd : Int → Int) (R : List Bool) (x : Ent) : Prop := x.u = true ∧ R.getD x.p.toNat false = true ∧ kd x.p = 2 ∧ kd x.t ≠ 0 ∧ R.getD x.t.toNat false = false ∧ x.t.toNat < R.length
instance (kd : Int → Int) (R : List Bool) (x : Ent) : Decidable (turnsR kd R x) := by unfold turnsR; infer_instance
theorem stepR_len (kd : Int → Int) (R : List Bool) (x : Ent) : (stepR kd R x).length = R.length := by unfold stepR; split <;> simp
theorem stepR_yes {kd : Int → Int} {R : List Bool} {x : Ent} (h : turnsR kd R x) : stepR kd R x = R.set x.t.toNat true ∧ cntR (stepR kd R x) = cntR R + 1 := by
 obtain ⟨h1, h2, h3, h4, h5, h6⟩ := h
 have e : stepR kd R x = R.set x.t.toNat true := if_pos ⟨h1, h2, h3, h4⟩
 exact ⟨e, by rw [e]; exact cntR_set R _ h6 h5⟩
theorem stepR_no {kd : Int → Int} {R : List Bool} {x : Ent} (h : ¬ turnsR kd R x) : stepR kd R x = R := by
 unfold stepR
 split
 ·rename_i h1
  rcases Nat.lt_or_ge x.t.toNat R.length with h6 | h6
  ·cases hb : R.getD x.t.toNat false with
   | true => exact set_same R _ hb
   | false => exact (h ⟨h1.1, h1.2.1, h1.2.2.1, h1.2.2.2, hb, h6⟩).elim
  ·exact set_out R _ h6
 ·rfl
theorem stepR_cnt (kd : Int → Int) (R : List Bool) (x : Ent) : cntR R ≤ cntR (stepR kd R x) := by
 by_cases h : turnsR kd R x
 ·rw [(stepR_yes h).2]; omega
 ·rw [stepR_no h]; exact Nat.le_refl _
theorem passR_len (kd : Int → Int) : ∀ (E : List Ent) (R : List Bool), (passR kd E R).length = R.length
 | [], R => rfl
 | x :: E, R => by
  show (passR kd E (stepR kd R x)).length = _
  rw [passR_len kd E, stepR_len]
theorem passR_cnt (kd : Int → Int) : ∀ (E : List Ent) (R : List Bool), cntR R ≤ cntR (passR kd E R)
 | [], R => Nat.le_refl _
 | x :: E, R => Nat.le_trans (stepR_cnt kd R x) (passR_cnt kd E (stepR kd R x))
theorem passR_snoc (kd : Int → Int) {E : List Ent} {k : Nat} {x : Ent} (h : E[k]? = some x) (R : List Bool) : passR kd (E.take (k + 1)) R = stepR kd (passR kd (E.take k) R) x := by
 unfold passR
 rw [List.take_add_one, h, List.foldl_append]; rfl
theorem cntR_le (R : List Bool) : cntR R ≤ R.length := List.countP_le_length
theorem iterR_add (kd : Int → Int) (E : List Ent) : ∀ (n m : Nat) (R : List Bool), iterR kd E (n + m) R = iterR kd E m (iterR kd E n R)
 | 0, m, R => by rw [Nat.zero_add]; rfl
 | n + 1, m, R => by
  rw [show n + 1 + m = (n + m) + 1 by omega]
  exact iterR_add kd E n m (passR kd E R)
theorem iterR_fix (kd : Int → Int) (E : List Ent) {R : List Bool} (h : passR kd E R = R) : ∀ n, iterR kd E n R = R
 | 0 => rfl
 | n + 1 => by show iterR kd E n (passR kd E R) = R; rw [h]; exact iterR_fix kd E h n
theorem iterR_len (kd : Int → Int) (E : List Ent) : ∀ (n : Nat) (R : List Bool), (iterR kd E n R).length = R.length
 | 0, R => rfl
 | n + 1, R => by show (iterR kd E n (passR kd E R)).length = _; rw [iterR_len kd E n, passR_len]
def R0 : List Bool := true :: List.replicate 15 false
def reachR (kd : Int → Int) (E : List Ent) : List Bool := iterR kd E 16 R0
theorem reach_at (kd : Int → Int) (E : List Ent) {j : Nat} (hj : j ≤ 16) (h : passR kd E (iterR kd E j R0) = iterR kd E j R0) : iterR kd E j R0 = reachR kd E := by
 unfold reachR
 rw [show 16 = j + (16 - j) by omega, iterR_add, iterR_fix kd E h]
def blks (x : Ino) : List Int := [x.b0, x.b1, x.b2, x.b3]
theorem own1 {x : Ino} (h : RI x) {b : Int} (hb : 1 ≤ b) : (blks x).count b = if x.k = 1 ∧ b ∈ blks x then 1 else 0 := by
  unfold RI at h
  have key : (blks x).count b = (if x.b0 = b then 1 else 0) + (if x.b1 = b then 1 else 0) + (if x.b2 = b then 1 else 0) + (if x.b3 = b then 1 else 0) := by
    simp only [blks, List.count_cons, List.count_nil, beq_iff_eq]; omega
  have hm : b ∈ blks x ↔ (x.b0 = b ∨ x.b1 = b ∨ x.b2 = b ∨ x.b3 = b) := by
    simp only [blks, List.mem_cons, List.not_mem_nil, or_false, eq_comm]
  rw [key]
  by_cases h0 : x.b0 = b <;> by_cases h1 : x.b1 = b <;> by_cases h2 : x.b2 = b <;> by_cases h3 : x.b3 = b
  all_goals
    simp only [h0, h1, h2, h3, if_true, if_false]
    by_cases hk : x.k = 1
    · first
        | (have hp : x.k = 1 ∧ b ∈ blks x := ⟨hk, hm.2 (by simp only [h0, h1, h2, h3, true_or, or_true])⟩
           rw [if_pos hp] <;> omega)
        | (have hn : ¬ (x.k = 1 ∧ b ∈ blks x) := fun q => by have := hm.1 q.2; omega
           rw [if_neg hn])
    · have hn : ¬ (x.k = 1 ∧ b ∈ blks x) := fun q => hk q.1
      first | (exfalso; omega) | (rw [if_neg hn]; done)
def prbK (P : Nat → Nat → Bool) (q : Nat) : List (Int × Int) := ((List.range q).filter fun j => P (j / 24 + 1) (j % 24)).map fun j => (((j / 24 + 1 : Nat) : Int), ((j % 24 : Nat) : Int))
def prbB (own : Nat → Nat) (q : Nat) : List (Int × Int) := ((List.range q).filter fun j => decide (1 < own (j + 1))).map fun j => (6, ((j + 1 : Nat) : Int))
theorem prbK_yes {P : Nat → Nat → Bool} {i k : Nat} (hk : k < 24) (h : P (i + 1) k = true) : prbK P (24 * i + (k + 1)) = prbK P (24 * i + k) ++ [(((i + 1 : Nat) : Int), (k : Int))] := by
 unfold prbK
 rw [show 24 * i + (k + 1) = (24 * i + k) + 1 by omega, List.range_succ, List.filter_append, List.map_append]
 have e1 : (24 * i + k) / 24 = i := by omega
 have e2 : (24 * i + k) % 24 = k := by omega
 have e3 : (24 * (i : Int) + k) / 24 = i := by omega
 have e4 : (k : Int) % 24 = k := by omega
 simp [e1, e2, e3, e4, h]
theorem prbK_no {P : Nat → Nat → Bool} {i k : Nat} (hk : k < 24) (h : P (i + 1) k = false) : prbK P (24 * i + (k + 1)) = prbK P (24 * i + k) := by
 unfold prbK
 rw [show 24 * i + (k + 1) = (24 * i + k) + 1 by omega, List.range_succ, List.filter_append, List.map_append]
 have e1 : (24 * i + k) / 24 = i := by omega
 have e2 : (24 * i + k) % 24 = k := by omega
 simp [e1, e2, h]
theorem prbB_yes {own : Nat → Nat} {k : Nat} (h : 1 < own (k + 1)) : prbB own (k + 1) = prbB own k ++ [(6, ((k + 1 : Nat) : Int))] := by
 unfold prbB
 rw [List.range_succ, List.filter_append, List.map_append]
 simp [h]
theorem prbB_no {own : Nat → Nat} {k : Nat} (h : ¬ 1 < own (k + 1)) : prbB own (k + 1) = prbB own k := by
 unfold prbB
 rw [List.range_succ, List.filter_append, List.map_append]
 simp [h]
theorem prbK_len (P : Nat → Nat → Bool) (q : Nat) : (prbK P q).length ≤ q := by
 unfold prbK
 rw [List.length_map]
 exact Nat.le_trans (List.length_filter_le _ _) (by rw [List.length_range]; exact Nat.le_refl _)
theorem prbB_len (own : Nat → Nat) (q : Nat) : (prbB own q).length ≤ q := by
 unfold prbB
 rw [List.length_map]
 exact Nat.le_trans (List.length_filter_le _ _) (by rw [List.length_range]; exact Nat.le_refl _)
end Go.Proofs.YthknbpijaoljgaaGreatDoor
namespace Go.Proofs.YthknbpijaoljgaaGreatDoor
open Go.Sy
theorem splice {α : Type} (pre M post l : List α) (j : Nat) (h : j + l.length ≤ M.length) :
  (pre ++ M ++ post).take (pre.length + j) ++ l ++ (pre ++ M ++ post).drop (pre.length + j + l.length) = pre ++ (M.take j ++ l ++ M.drop (j + l.length)) ++ post := by
 have e1 : (pre ++ M ++ post).take (pre.length + j) = pre ++ M.take j := by
  rw [List.append_assoc, List.take_append, List.take_of_length_le (by omega), List.take_append]
  rw [show pre.length + j - pre.length = j by omega, show j - M.length = 0 by omega]
  simp
 have e2 : (pre ++ M ++ post).drop (pre.length + j + l.length) = M.drop (j + l.length) ++ post := by
  rw [List.append_assoc, List.drop_append, List.drop_eq_nil_of_le (by omega), List.nil_append, List.drop_append]
  rw [show pre.length + j + l.length - pre.length = j + l.length by omega, show j + l.length - M.length = 0 by omega]
  simp
 rw [e1, e2]
 simp only [List.append_assoc]
theorem fm_len {α β : Type} {enc : α → List β} {sz : Nat} (h : ∀ x, (enc x).length = sz) : ∀ L : List α, (L.flatMap enc).length = L.length * sz
 | [] => by simp
 | x :: L => by rw [List.flatMap_cons, List.length_append, h, fm_len h L, List.length_cons, Nat.add_mul]; omega
theorem fm_take {α β : Type} {enc : α → List β} {sz : Nat} (h : ∀ x, (enc x).length = sz) : ∀ (L : List α) (i : Nat), (L.flatMap enc).take (i * sz) = (L.take i).flatMap enc
 | [], i => by simp
 | x :: L, 0 => by simp
 | x :: L, i + 1 => by
  rw [List.take_succ_cons, List.flatMap_cons, List.flatMap_cons, Nat.add_mul, Nat.one_mul, List.take_append, List.take_of_length_le (by rw [h]; omega), h, show i * sz + sz - sz = i * sz by omega, fm_take h L i]
theorem fm_drop {α β : Type} {enc : α → List β} {sz : Nat} (h : ∀ x, (enc x).length = sz) : ∀ (L : List α) (i : Nat), (L.flatMap enc).drop (i * sz) = (L.drop i).flatMap enc
 | [], i => by simp
 | x :: L, 0 => by simp
 | x :: L, i + 1 => by
  rw [List.drop_succ_cons, List.flatMap_cons, Nat.add_mul, Nat.one_mul, List.drop_append, List.drop_eq_nil_of_le (by rw [h]; omega), h, show i * sz + sz - sz = i * sz by omega, fm_drop h L i, List.nil_append]
theorem fm_set {α β : Type} {enc : α → List β} {sz : Nat} (h : ∀ x, (enc x).length = sz) (L : List α) (i : Nat) (x : α) (hi : i < L.length) :
  (L.flatMap enc).take (i * sz) ++ enc x ++ (L.flatMap enc).drop (i * sz + (enc x).length) = (L.set i x).flatMap enc := by
 rw [h, show i * sz + sz = (i + 1) * sz by rw [Nat.add_mul]; omega, fm_take h, fm_drop h, List.set_eq_take_append_cons_drop, if_pos hi, List.flatMap_append, List.flatMap_cons, List.append_assoc]
theorem fm_at {α β : Type} {enc : α → List β} {sz : Nat} (h : ∀ x, (enc x).length = sz) (pre post : List β) (L : List α) (i : Nat) (x : α) (hx : L[i]? = some x) :
  ((pre ++ L.flatMap enc ++ post).drop (pre.length + i * sz)).take sz = enc x := by
 have hi := (List.getElem?_eq_some_iff.1 hx).1
 have e2 : (pre ++ L.flatMap enc ++ post).drop (pre.length + i * sz) = (L.drop i).flatMap enc ++ post := by
  rw [List.append_assoc, List.drop_append, List.drop_eq_nil_of_le (by omega), List.nil_append, List.drop_append]
  rw [show pre.length + i * sz - pre.length = i * sz by omega, fm_drop h]
  have : i * sz - (L.flatMap enc).length = 0 := by
   rw [fm_len h]
   have := Nat.mul_le_mul_right sz (Nat.le_of_lt hi)
   omega
  rw [this]; simp
 have e3 : L.drop i = x :: L.drop (i + 1) := by
  rw [List.drop_eq_getElem_cons hi, (List.getElem?_eq_some_iff.1 hx).2]
 rw [e2, e3, List.flatMap_cons, List.append_assoc, List.take_append_of_le_length (by rw [h]; omega), List.take_of_length_le (by rw [h]; omega)]
theorem fm_setM {α β : Type} {enc : α → List β} {sz : Nat} (h : ∀ x, (enc x).length = sz) (pre post : List β) (L : List α) (i : Nat) (x : α) (hi : i < L.length) {a b : Nat} (ha : a = pre.length + i * sz) (hb : b = a + sz) :
  (pre ++ L.flatMap enc ++ post).take a ++ enc x ++ (pre ++ L.flatMap enc ++ post).drop b = pre ++ (L.set i x).flatMap enc ++ post := by
 subst ha hb
 have hl : i * sz + (enc x).length ≤ (L.flatMap enc).length := by
  rw [fm_len h, h]
  have := Nat.mul_le_mul_right sz hi
  rw [Nat.succ_mul] at this; exact this
 have := splice pre (L.flatMap enc) post (enc x) (i * sz) hl
 rw [fm_set h L i x hi, h] at this
 exact this
end Go.Proofs.YthknbpijaoljgaaGreatDoor
namespace Go.Proofs.YthknbpijaoljgaaGreatDoor
open Go.Sy
def encX (d : Option Dk) (I : List Ino) (E : List Ent) (R : List Bool) : List D := [encD d] ++ I.flatMap encI ++ E.flatMap encE ++ R.flatMap fun b => [D.bl b]
theorem encI_len (x : Ino) : (encI x).length = 6 := rfl
theorem encE_len (x : Ent) : (encE x).length = 4 := rfl
structure XOK (I : List Ino) (E : List Ent) (R : List Bool) : Prop where
 i : I.length = 16
 e : E.length = 24
 r : R.length = 16
 p : ∀ x ∈ E, x.u = true → 0 ≤ x.p ∧ x.p < 16 ∧ 1 ≤ x.t ∧ x.t < 16
section
variable {d : Option Dk} {I : List Ino} {E : List Ent} {R : List Bool}
theorem x_len (h : XOK I E R) : (encX d I E R).length = 209 := by
 unfold encX
 simp only [List.length_append, fm_len encI_len, fm_len encE_len, fm_len (enc := fun b => [D.bl b]) (sz := 1) (fun _ => rfl), h.i, h.e, h.r]; rfl
theorem x_d1 : (encX d I E R).drop 1 = I.flatMap encI ++ E.flatMap encE ++ R.flatMap fun b => [D.bl b] := rfl
theorem x_d97 (h : XOK I E R) : (encX d I E R).drop 97 = E.flatMap encE ++ R.flatMap fun b => [D.bl b] := by
 unfold encX
 rw [List.append_assoc, List.drop_append, List.drop_eq_nil_of_le (by simp [fm_len encI_len, h.i]), List.nil_append]
 simp [fm_len encI_len, h.i]
theorem x_d193 (h : XOK I E R) : (encX d I E R).drop 193 = R.flatMap fun b => [D.bl b] := by
 unfold encX
 rw [List.drop_append, List.drop_eq_nil_of_le (by simp [fm_len encI_len, fm_len encE_len, h.i, h.e]), List.nil_append]
 simp [fm_len encI_len, fm_len encE_len, h.i, h.e]
theorem at_R {n : Int} {b : Bool} (hb : R[n.toNat]? = some b) : ((R.flatMap fun b => [D.bl b]).drop (n.toNat * 1)).take 1 = [.bl b] := by
 have := fm_at (enc := fun b => [D.bl b]) (sz := 1) (fun _ => rfl) [] [] R n.toNat b hb
 simpa using this
theorem at_I {n : Int} {x : Ino} (hx : I[n.toNat]? = some x) : ((I.flatMap encI ++ E.flatMap encE ++ R.flatMap fun b => [D.bl b]).drop (n.toNat * 6)).take 6 = encI x := by
 have := fm_at encI_len [] (E.flatMap encE ++ R.flatMap fun b => [D.bl b]) I n.toNat x hx
 simpa using this
theorem at_E {n : Int} {x : Ent} (hx : E[n.toNat]? = some x) : ((E.flatMap encE ++ R.flatMap fun b => [D.bl b]).drop (n.toNat * 4)).take 4 = encE x := by
 have := fm_at encE_len [] (R.flatMap fun b => [D.bl b]) E n.toNat x hx
 simpa using this
end
def sndP (I : List Ino) (R : List Bool) (x : Ent) : Prop := x.u = true ∧ R.getD x.p.toNat false = true ∧ (I.getD x.p.toNat ino0).k = 2
instance (I : List Ino) (R : List Bool) (x : Ent) : Decidable (sndP I R x) := by unfold sndP; infer_instance
set_option maxHeartbeats 8000000 in
theorem sound_ok {d : Option Dk} {I : List Ino} {E : List Ent} {R : List Bool} (h : XOK I E R) {x : Ent} (hx : x ∈ E) : FnC Tryz.prog 147 [.d (.fp 209 (encX d I E R)), .dg 4 (encE x)] (.d (.bl (decide (sndP I R x)))) := by
 have h193 := x_d193 (d := d) h
 cases hu : x.u with
 | false =>
  have hxe : encE x = [.bl false, .it .i64 x.p, .st x.n, .it .i64 x.t] := by rw [encE, hu]
  rw [hxe]
  refine FnC.intro ti_ok Tryz.func147 rfl Tryz.ntmps147 Tryz.call147 rfl (Nat.le_of_ble_eq_true rfl) rfl ?_
  (repeat' ((conv=>whnf);first|with_reducible refine gA ?_|(with_reducible first|refine gB ?_|refine gZ (fun x hx hu=>?_)|refine gY (fun x hx=>?_)|refine gE ?_|refine Both.mk ?_ ?_|refine gS (fun h=>?_) (fun h=>?_)|refine Spl.nt ?_|refine Spl.mk (fun h=>?_) (fun h=>?_))))
  exact bl_ff (fun q => by rw [q.1] at hu; cases hu)
 | true =>
  have hxe : encE x = [.bl true, .it .i64 x.p, .st x.n, .it .i64 x.t] := by rw [encE, hu]
  rw [hxe]
  obtain ⟨p1, p2, _, _⟩ := h.p x hx hu
  obtain ⟨r, hr⟩ := lt_get (l := R) (k := x.p.toNat) (by rw [h.r]; omega)
  obtain ⟨y, hy⟩ := lt_get (l := I) (k := x.p.toNat) (by rw [h.i]; omega)
  have hP : sndP I R x ↔ r = true ∧ y.k = 2 := by
   unfold sndP
   rw [List.getD_eq_getElem?_getD, hr, List.getD_eq_getElem?_getD, hy]
   exact ⟨fun q => q.2, fun q => ⟨hu, q⟩⟩
  have hR := at_R hr
  have hI := at_I (E := E) (R := R) hy
  cases r with
  | false =>
   refine FnC.intro ti_ok Tryz.func147 rfl Tryz.ntmps147 Tryz.call147 rfl (Nat.le_of_ble_eq_true rfl) rfl ?_
   (repeat' ((conv=>whnf);first|with_reducible refine gA ?_|((with_reducible refine atD_id ?_); first | refine AtD.eq h193 ?_ | refine AtD.eq hR ?_ | refine AtD.eq hI ?_ | refine AtD.now ?_)|(with_reducible first|refine gB ?_|refine gZ (fun x hx hu=>?_)|refine gY (fun x hx=>?_)|refine gE ?_|refine Both.mk ?_ ?_|refine gS (fun h=>?_) (fun h=>?_)|refine Spl.nt ?_|refine Spl.mk (fun h=>?_) (fun h=>?_))))
   exact bl_ff (fun q => by have := (hP.1 q).1; cases this)
  | true =>
   refine FnC.intro ti_ok Tryz.func147 rfl Tryz.ntmps147 Tryz.call147 rfl (Nat.le_of_ble_eq_true rfl) rfl ?_
   (repeat' ((conv=>whnf);first|with_reducible refine gA ?_|((with_reducible refine atD_id ?_); first | refine AtD.eq h193 ?_ | refine AtD.eq hR ?_ | refine AtD.eq hI ?_ | refine AtD.now ?_)|(with_reducible first|refine gB ?_|refine gZ (fun x hx hu=>?_)|refine gY (fun x hx=>?_)|refine gE ?_|refine Both.mk ?_ ?_|refine gS (fun h=>?_) (fun h=>?_)|refine Spl.nt ?_|refine Spl.mk (fun h=>?_) (fun h=>?_))))
   refine bl_of ?_
   rw [beq_iff_eq, hP]
   exact ⟨fun q => ⟨rfl, q⟩, fun q => q.2⟩
section
variable {d : Option Dk} {I : List Ino} {E : List Ent} {R : List Bool}
theorem ldX_R (h : XOK I E R) {n : Nat} {b : Bool} (hb : R[n]? = some b) {ty : Ty} (ha : ty.kd.agg = false) {off : Nat} (ho : off = 193 + n * 1) : ldA ty off ((encX d I E R).map AV.d) = .d (.bl b) := by
 subst ho
 unfold ldA
 rw [ha, cond_false, List.getD_eq_getElem?_getD, List.getElem?_map]
 have e := fm_at (enc := fun b => [D.bl b]) (sz := 1) (fun _ => rfl) [] [] R n b hb
 have e2 : (encX d I E R)[193 + n * 1]? = some (.bl b) := by
  have h1 : ((encX d I E R).drop 193)[n * 1]? = (encX d I E R)[193 + n * 1]? := List.getElem?_drop
  rw [← h1, x_d193 h]
  have h2 : (((R.flatMap fun b => [D.bl b]).drop (n * 1)).take 1)[0]? = some (.bl b) := by
   have : (((R.flatMap fun b => [D.bl b]).drop (n * 1)).take 1) = [.bl b] := by simpa using e
   rw [this]; rfl
  rw [List.getElem?_take, if_pos (by decide), List.getElem?_drop] at h2
  simpa using h2
 rw [e2]; rfl
theorem ldX_I (h : XOK I E R) {n : Nat} {x : Ino} (hx : I[n]? = some x) {ty : Ty} (ha : ty.kd.agg = false) {off : Nat} (ho : off = 1 + n * 6 + 0) : ldA ty off ((encX d I E R).map AV.d) = .d (.it .i64 x.k) := by
 subst ho
 unfold ldA
 rw [ha, cond_false, List.getD_eq_getElem?_getD, List.getElem?_map]
 have e := fm_at encI_len [encD d] (E.flatMap encE ++ R.flatMap fun b => [D.bl b]) I n x hx
 have e2 : (encX d I E R)[1 + n * 6]? = some (.it .i64 x.k) := by
  have h2 : (((encX d I E R).drop (1 + n * 6)).take 6)[0]? = some (.it .i64 x.k) := by
   have : ((encX d I E R).drop (1 + n * 6)).take 6 = encI x := by
    unfold encX
    rw [List.append_assoc ([encD d] ++ _)]
    exact e
   rw [this]; rfl
  rw [List.getElem?_take, if_pos (by decide), List.getElem?_drop] at h2
  simpa using h2
 rw [show 1 + n * 6 + 0 = 1 + n * 6 from rfl, e2]; rfl
theorem ldX_E (h : XOK I E R) {ty : Ty} (ha : ty.kd.agg = true) (hz : ty.size = 96) : ldA ty 97 ((encX d I E R).map AV.d) = .dg 96 (E.flatMap encE) := by
 unfold ldA
 rw [ha, cond_true, hz]
 have e : (((encX d I E R).map AV.d).drop 97).take 96 = (E.flatMap encE).map AV.d := by
  rw [← List.map_drop, x_d97 h, ← List.map_take, List.take_left' (by rw [fm_len encE_len, h.e])]
 rw [e]
 unfold mkAg
 rw [allD_map]
theorem stX_R (h : XOK I E R) {n : Nat} (hn : n < 16) {b : Bool} {i j : Nat} (hi : i = 193 + n * 1) (hj : j = i + 1) :
  ((encX d I E R).map AV.d).take i ++ [AV.d (.bl b)] ++ ((encX d I E R).map AV.d).drop j = (encX d I E (R.set n b)).map AV.d := by
 have e := fm_setM (enc := fun b => [D.bl b]) (sz := 1) (fun _ => rfl) ([encD d] ++ I.flatMap encI ++ E.flatMap encE) [] R n b (by rw [h.r]; exact hn) (a := i) (b := j)
  (by simp [fm_len encI_len, fm_len encE_len, h.i, h.e]; omega) hj
 rw [← List.map_take, ← List.map_drop]
 have e' : (encX d I E R).take i ++ [D.bl b] ++ (encX d I E R).drop j = encX d I E (R.set n b) := by
  simpa [encX] using e
 rw [← e', List.map_append, List.map_append]; rfl
end
end Go.Proofs.YthknbpijaoljgaaGreatDoor
namespace Go.Proofs.YthknbpijaoljgaaGreatDoor
open Go.Sy
def kdI (I : List Ino) (n : Int) : Int := (I.getD n.toNat ino0).k
theorem xok_pass {I : List Ino} {E : List Ent} {R : List Bool} (h : XOK I E R) (kd : Int → Int) (L : List Ent) : XOK I E (passR kd L R) := ⟨h.i, h.e, by rw [passR_len]; exact h.r, h.p⟩
theorem callR_id {P : Program} {mem : List (Nat × Ob)} {f : Nat} {l : List AV} {K : AV → Prop} (h : CallR P mem f l K) : CallR P mem f l K := h
theorem ldD_E {E : List Ent} {n : Int} {x : Ent} (hx : E[n.toNat]? = some x) {ty : Ty} (ha : ty.kd.agg = true) (hz : ty.size = 4) : ldD ty ((E.flatMap encE).drop (n.toNat * 4)) = .dg 4 (encE x) := by
 unfold ldD
 rw [ha, cond_true, hz]
 have := fm_at encE_len [] [] E n.toNat x hx
 have e : ((E.flatMap encE).drop (n.toNat * 4)).take 4 = encE x := by simpa using this
 rw [e]
def rpA (d : Option Dk) (I : List Ino) (E : List Ent) (R : List Bool) (T : Nat) (k : Nat) (R' : List Bool) (m : Bool) : S :=
 ⟨[(0, .ptr 0 0), (3, .d (.bl m)), (9, .dg 96 (E.flatMap encE)), (10, .d (.it .i64 (k : Nat)))], [(0, .cells 209 ((encX d I E R').map .d)), (1, .frame 2 [(0, .ptr 0 0)]), (2, .tag 0 T)], 3⟩
theorem rpA_ok (d : Option Dk) (I : List Ino) (E : List Ent) (R : List Bool) (T : Nat) (k : Nat) (R' : List Bool) (m : Bool) : (rpA d I E R T k R' m).ok = true := by
 unfold rpA
 simp only [S.ok, List.all_cons, List.all_nil, Ob.lt, all_d]; rfl
theorem X_m1 (d : Option Dk) (I : List Ino) (E : List Ent) (R : List Bool) : (Ob.cells 209 ((encX d I E R).map .d)).m1 false = true := by
 show (!false && (Sy.allD _).isSome) = true
 rw [allD_map]; rfl
def rpI (I : List Ino) (E : List Ent) (R : List Bool) (x : Nat × List Bool × Bool) : Prop := x.1 ≤ 24 ∧ x.2.1 = passR (kdI I) (E.take x.1) R ∧ x.2.2 = decide (cntR R < cntR x.2.1)
set_option maxHeartbeats 8000000 in
theorem reach_ok {d : Option Dk} {I : List Ino} {E : List Ent} {R : List Bool} (h : XOK I E R) :
  FnM Tryz.prog 117 false [.ptr 0 0] (.cells 209 ((encX d I E R).map .d)) (.cells 209 ((encX d I E (passR (kdI I) E R)).map .d)) (.d (.bl (decide (cntR R < cntR (passR (kdI I) E R))))) := by
 refine FnM.intro ti_ok Tryz.func117 rfl Tryz.ntmps117 Tryz.call117 rfl (X_m1 ..) (X_m1 ..) rfl (Nat.le_of_ble_eq_true rfl) .cells ?_
 intro T
 have hl0 := allD_map (encX d I E R)
 (repeat' ((conv=>whnf);first|with_reducible refine gA ?_|((with_reducible refine atA_id ?_); first | refine AtA.eq (ldX_E h rfl rfl) ?_)|(with_reducible first|refine gB ?_|refine gZ (fun x hx hu=>?_)|refine gY (fun x hx=>?_)|refine gE ?_|refine Both.mk ?_ ?_|refine gS (fun h=>?_) (fun h=>?_)|refine Spl.nt ?_|refine Spl.mk (fun h=>?_) (fun h=>?_))))
 conv => whnf
 refine loop_rule ti_ok (rpI I E R) (fun x => rpA d I E R T x.1 x.2.1 x.2.2) (fun x => 24 - x.1) (0, R, false) ⟨Nat.zero_le _, rfl, by simp⟩ ⟨And.intro rfl (And.intro rfl (And.intro rfl (And.intro rfl trivial))), And.intro rfl (And.intro rfl (And.intro rfl trivial)), rpA_ok ..⟩ ?_
 intro ⟨k, R', m⟩ hk0
 have hkl := hk0.1
 have hRk := hk0.2.1
 have hm := hk0.2.2
 dsimp only at hkl hRk hm
 by_cases hk : k < 24
 ·have hg : E[k]? = some (E[k]'(by rw [h.e]; exact hk)) := List.getElem?_eq_getElem _
  have hmem : E[k]'(by rw [h.e]; exact hk) ∈ E := List.getElem_mem _
  have hsn := passR_snoc (kdI I) hg R
  have hx := xok_pass h (kdI I) (E.take k)
  have hc1 := passR_cnt (kdI I) (E.take k) R
  rw [← hRk] at hsn hx hc1
  generalize E[k]'(by rw [h.e]; exact hk) = e at hg hmem hsn
  have hgI : E[((k : Nat) : Int).toNat]? = some e := hg
  have hs := sound_ok (d := d) hx hmem
  have hal := allD_map (encX d I E R')
  have hdr : (((encX d I E R').map AV.d).drop 0).take 209 = (encX d I E R').map AV.d := by
   rw [List.drop_zero, List.take_of_length_le (by rw [List.length_map, x_len hx]; exact Nat.le_refl _)]
  by_cases hsp : sndP I R' e
  ·rw [decide_eq_true hsp] at hs
   have hu := hsp.1
   have hp := h.p e hmem hu
   have hr : R'[e.t.toNat]? = some (R'[e.t.toNat]'(by rw [hx.r]; omega)) := List.getElem?_eq_getElem _
   have hy : I[e.t.toNat]? = some (I[e.t.toNat]'(by rw [h.i]; omega)) := List.getElem?_eq_getElem _
   generalize R'[e.t.toNat]'(by rw [hx.r]; omega) = r at hr
   generalize I[e.t.toNat]'(by rw [h.i]; omega) = y at hy
   have hT : turnsR (kdI I) R' e ↔ r = false ∧ y.k ≠ 0 := by
    unfold turnsR kdI
    rw [List.getD_eq_getElem?_getD (l := R') (i := e.t.toNat), hr, List.getD_eq_getElem?_getD (l := I) (i := e.t.toNat), hy]
    exact ⟨fun q => ⟨q.2.2.2.2.1, q.2.2.2.1⟩, fun q => ⟨hu, hsp.2.1, hsp.2.2, q.2, q.1, by rw [hx.r]; omega⟩⟩
   by_cases hrr : r = true
   ·have hst := hsn.trans (stepR_no (fun q => by have := (hT.1 q).1; rw [hrr] at this; cases this))
    rw [hrr] at hr
    (repeat' ((conv=>whnf);first|with_reducible refine gA ?_|((with_reducible refine atA_id ?_); first | refine AtA.eq (ldD_E hgI rfl rfl) ?_ | refine AtA.eq (ldX_R hx hr rfl rfl) ?_ | refine AtA.eq (ldX_I hx hy rfl rfl) ?_) | ((with_reducible refine callR_id ?_); refine CallR.mk ⟨[AV.d (.fp 209 (encX d I E R')), .dg 4 (encE e)], _, And.intro ⟨209, _, by with_unfolding_all exact rfl, Nat.le_refl _, x_len hx, (congrArg frzL hdr).trans (frz_map _)⟩ (And.intro (by with_unfolding_all exact rfl) trivial), hs, rfl, ?_⟩)|(with_reducible first|refine gB ?_|refine gZ (fun x hx hu=>?_)|refine gY (fun x hx=>?_)|refine gE ?_|refine Both.mk ?_ ?_|refine gS (fun h=>?_) (fun h=>?_)|refine Spl.nt ?_|refine Spl.mk (fun h=>?_) (fun h=>?_))))
    refine again (k + 1, R', m) ⟨hk, hst.symm, hm⟩ (by dsimp only; omega) (And.intro rfl (And.intro rfl (And.intro rfl (And.intro (it_eq (by dsimp only; omega)) trivial)))) (And.intro rfl (And.intro rfl (And.intro rfl trivial))) (rpA_ok ..)
   ·have hrf : r = false := by simpa using hrr
    rw [hrf] at hr
    by_cases hyk : y.k = 0
    ·have hst := hsn.trans (stepR_no (fun q => (hT.1 q).2 hyk))
     (repeat' ((conv=>whnf);first|with_reducible refine gA ?_|((with_reducible refine atA_id ?_); first | refine AtA.eq (ldD_E hgI rfl rfl) ?_ | refine AtA.eq (ldX_R hx hr rfl rfl) ?_ | refine AtA.eq (ldX_I hx hy rfl rfl) ?_) | ((with_reducible refine callR_id ?_); refine CallR.mk ⟨[AV.d (.fp 209 (encX d I E R')), .dg 4 (encE e)], _, And.intro ⟨209, _, by with_unfolding_all exact rfl, Nat.le_refl _, x_len hx, (congrArg frzL hdr).trans (frz_map _)⟩ (And.intro (by with_unfolding_all exact rfl) trivial), hs, rfl, ?_⟩)|(with_reducible first|refine gB ?_|refine gZ (fun x hx hu=>?_)|refine gY (fun x hx=>?_)|refine gE ?_|refine Both.mk ?_ ?_|refine gS (fun h=>?_) (fun h=>?_)|refine Spl.nt ?_|refine Spl.mk (fun h=>?_) (fun h=>?_))))
     refine again (k + 1, R', m) ⟨hk, hst.symm, hm⟩ (by dsimp only; omega) (And.intro rfl (And.intro rfl (And.intro rfl (And.intro (it_eq (by dsimp only; omega)) trivial)))) (And.intro rfl (And.intro rfl (And.intro rfl trivial))) (rpA_ok ..)
    ·have hty := stepR_yes (hT.2 ⟨hrf, hyk⟩)
     have hst := hsn.trans hty.1
     (repeat' ((conv=>whnf);first|with_reducible refine gA ?_|((with_reducible refine atA_id ?_); first | refine AtA.eq (ldD_E hgI rfl rfl) ?_ | refine AtA.eq (ldX_R hx hr rfl rfl) ?_ | refine AtA.eq (ldX_I hx hy rfl rfl) ?_) | ((with_reducible refine callR_id ?_); refine CallR.mk ⟨[AV.d (.fp 209 (encX d I E R')), .dg 4 (encE e)], _, And.intro ⟨209, _, by with_unfolding_all exact rfl, Nat.le_refl _, x_len hx, (congrArg frzL hdr).trans (frz_map _)⟩ (And.intro (by with_unfolding_all exact rfl) trivial), hs, rfl, ?_⟩)|(with_reducible first|refine gB ?_|refine gZ (fun x hx hu=>?_)|refine gY (fun x hx=>?_)|refine gE ?_|refine Both.mk ?_ ?_|refine gS (fun h=>?_) (fun h=>?_)|refine Spl.nt ?_|refine Spl.mk (fun h=>?_) (fun h=>?_))))
     have hmt : true = decide (cntR R < cntR (R'.set e.t.toNat true)) := by
      rw [eq_comm, decide_eq_true_eq, ← hty.1, hty.2]; omega
     refine again (k + 1, R'.set e.t.toNat true, true) ⟨hk, hst.symm, hmt⟩ (by dsimp only; omega) (And.intro rfl (And.intro rfl (And.intro rfl (And.intro (it_eq (by dsimp only; omega)) trivial)))) (And.intro (cells_eq rfl (stX_R hx (by omega) rfl rfl)) (And.intro rfl (And.intro rfl trivial))) (rpA_ok ..)
  ·rw [decide_eq_false hsp] at hs
   have hno : ¬ turnsR (kdI I) R' e := fun q => hsp ⟨q.1, q.2.1, q.2.2.1⟩
   have hst := hsn.trans (stepR_no hno)
   (repeat' ((conv=>whnf);first|with_reducible refine gA ?_|((with_reducible refine atA_id ?_); first | refine AtA.eq (ldD_E hgI rfl rfl) ?_) | ((with_reducible refine callR_id ?_); refine CallR.mk ⟨[AV.d (.fp 209 (encX d I E R')), .dg 4 (encE e)], _, And.intro ⟨209, _, by with_unfolding_all exact rfl, Nat.le_refl _, x_len hx, (congrArg frzL hdr).trans (frz_map _)⟩ (And.intro (by with_unfolding_all exact rfl) trivial), hs, rfl, ?_⟩)|(with_reducible first|refine gB ?_|refine gZ (fun x hx hu=>?_)|refine gY (fun x hx=>?_)|refine gE ?_|refine Both.mk ?_ ?_|refine gS (fun h=>?_) (fun h=>?_)|refine Spl.nt ?_|refine Spl.mk (fun h=>?_) (fun h=>?_))))
   refine again (k + 1, R', m) ⟨hk, hst.symm, hm⟩ (by dsimp only; omega) (And.intro rfl (And.intro rfl (And.intro rfl (And.intro (it_eq (by dsimp only; omega)) trivial)))) (And.intro rfl (And.intro rfl (And.intro rfl trivial))) (rpA_ok ..)
 ·have hk24 : E.take k = E := List.take_of_length_le (by rw [h.e]; omega)
  rw [hk24] at hRk
  (repeat' ((conv=>whnf);first|with_reducible refine gA ?_|(with_reducible first|refine gB ?_|refine gZ (fun x hx hu=>?_)|refine gY (fun x hx=>?_)|refine gE ?_|refine Both.mk ?_ ?_|refine gS (fun h=>?_) (fun h=>?_)|refine Spl.nt ?_|refine Spl.mk (fun h=>?_) (fun h=>?_))))
  refine ⟨⟨[(2, .d (.bl m))], [(0, .cells 209 ((encX d I E R').map .d)), (1, .frame 2 [(0, .ptr 0 0)]), (2, .tag 0 T)], 3⟩, Wk.en ⟨And.intro rfl trivial, And.intro rfl (And.intro rfl (And.intro rfl trivial)), ?_⟩, ?_, ?_, rfl, rfl⟩
  ·simp only [S.ok, List.all_cons, List.all_nil, Ob.lt, all_d]; rfl
  ·show AV.d (.bl m) = .d (.bl (decide (cntR R < cntR (passR (kdI I) E R))))
   rw [hm, hRk]
  ·show some (Ob.cells 209 ((encX d I E R').map .d)) = _
   rw [hRk]
end Go.Proofs.YthknbpijaoljgaaGreatDoor
namespace Go.Proofs.YthknbpijaoljgaaGreatDoor
open Go.Sy
def xI (f : Int → List UInt8) (n : Nat) : List Ino := (List.range 16).map fun i : Nat => if i < n then inoAt f (i : Nat) else ino0
def xE (f : Int → List UInt8) (n : Nat) : List Ent := (List.range 24).map fun i : Nat => if i < n then entAt f (i : Nat) else ent0
theorem xI_len (f : Int → List UInt8) (n : Nat) : (xI f n).length = 16 := by unfold xI; rw [List.length_map, List.length_range]
theorem xE_len (f : Int → List UInt8) (n : Nat) : (xE f n).length = 24 := by unfold xE; rw [List.length_map, List.length_range]
theorem xI_get (f : Int → List UInt8) (n i : Nat) (h : i < (xI f n).length) : (xI f n)[i] = if i < n then inoAt f (i : Nat) else ino0 := by simp [xI]
theorem xI_set (f : Int → List UInt8) {n : Nat} (h : n < 16) : (xI f n).set n (inoAt f (n : Nat)) = xI f (n + 1) := by
 refine List.ext_getElem (by rw [List.length_set, xI_len, xI_len]) fun i h1 h2 => ?_
 rw [List.getElem_set, xI_get, xI_get]
 by_cases hi : n = i
 ·subst hi; rw [if_pos rfl, if_pos (by omega)]
 ·rw [if_neg hi]
  by_cases h3 : i < n
  ·rw [if_pos h3, if_pos (by omega)]
  ·rw [if_neg h3, if_neg (by omega)]
theorem xE_get (f : Int → List UInt8) (n i : Nat) (h : i < (xE f n).length) : (xE f n)[i] = if i < n then entAt f (i : Nat) else ent0 := by simp [xE]
theorem xE_set (f : Int → List UInt8) {n : Nat} (h : n < 24) : (xE f n).set n (entAt f (n : Nat)) = xE f (n + 1) := by
 refine List.ext_getElem (by rw [List.length_set, xE_len, xE_len]) fun i h1 h2 => ?_
 rw [List.getElem_set, xE_get, xE_get]
 by_cases hi : n = i
 ·subst hi; rw [if_pos rfl, if_pos (by omega)]
 ·rw [if_neg hi]
  by_cases h3 : i < n
  ·rw [if_pos h3, if_pos (by omega)]
  ·rw [if_neg h3, if_neg (by omega)]
theorem entAt_RE (f : Int → List UInt8) (k : Int) : RE (entAt f k) := by
 unfold entAt
 split
 ·unfold entOf
  split
  ·rename_i h; exact h.1
  ·exact .inl ⟨rfl, rfl, rfl, rfl⟩
 ·exact .inl ⟨rfl, rfl, rfl, rfl⟩
theorem xok_L (f : Int → List UInt8) (n k : Nat) {R : List Bool} (hR : R.length = 16) : XOK (xI f n) (xE f k) R := by
 refine ⟨xI_len f n, xE_len f k, hR, fun x hx hu => ?_⟩
 obtain ⟨i, _, rfl⟩ := List.mem_map.1 hx
 have hx' : RE (if i < k then entAt f (i : Nat) else ent0) := by
  split
  ·exact entAt_RE f i
  ·exact .inl ⟨rfl, rfl, rfl, rfl⟩
 rcases hx' with h | h
 ·rw [hu] at h; cases h.1
 ·exact ⟨h.2.1, h.2.2.1, h.2.2.2.1, h.2.2.2.2.1⟩
theorem stX_I {d : Option Dk} {I : List Ino} {E : List Ent} {R : List Bool} (h : XOK I E R) {n : Nat} (hn : n < 16) {y : Ino} {i j : Nat} (hi : i = 1 + n * 6) (hj : j = i + 6) :
  ((encX d I E R).map AV.d).take i ++ (encI y).map AV.d ++ ((encX d I E R).map AV.d).drop j = (encX d (I.set n y) E R).map AV.d := by
 have e := fm_setM encI_len [encD d] (E.flatMap encE ++ R.flatMap fun b => [D.bl b]) I n y (by rw [h.i]; exact hn) (a := i) (b := j) (by simpa using hi) hj
 rw [← List.map_take, ← List.map_drop]
 have e' : (encX d I E R).take i ++ encI y ++ (encX d I E R).drop j = encX d (I.set n y) E R := by
  unfold encX
  rw [List.append_assoc ([encD d] ++ I.flatMap encI), List.append_assoc ([encD d] ++ (I.set n y).flatMap encI)]
  exact e
 rw [← e', List.map_append, List.map_append]
theorem stX_E {d : Option Dk} {I : List Ino} {E : List Ent} {R : List Bool} (h : XOK I E R) {n : Nat} (hn : n < 24) {y : Ent} {i j : Nat} (hi : i = 97 + n * 4) (hj : j = i + 4) :
  ((encX d I E R).map AV.d).take i ++ (encE y).map AV.d ++ ((encX d I E R).map AV.d).drop j = (encX d I (E.set n y) R).map AV.d := by
 have e := fm_setM encE_len ([encD d] ++ I.flatMap encI) (R.flatMap fun b => [D.bl b]) E n y (by rw [h.e]; exact hn) (a := i) (b := j) (by simp [fm_len encI_len, h.i]; omega) hj
 rw [← List.map_take, ← List.map_drop]
 have e' : (encX d I E R).take i ++ encE y ++ (encX d I E R).drop j = encX d I (E.set n y) R := e
 rw [← e', List.map_append, List.map_append]
def rdA (d : Option Dk) (s : Nat) (k : Nat) (I : List Ino) (E : List Ent) (R : List Bool) : S :=
 ⟨[(0, .d (encD d)), (3, .ptr 0 0), (s, .d (.it .i64 (k : Nat)))], [(0, .cells 209 ((encX d I E R).map .d))], 1⟩
theorem rdA_ok (d : Option Dk) (s : Nat) (k : Nat) (I : List Ino) (E : List Ent) (R : List Bool) : (rdA d s k I E R).ok = true := by
 unfold rdA
 simp only [S.ok, List.all_cons, List.all_nil, Ob.lt, all_d]; rfl
def rdI (f : Int → List UInt8) (x : Nat × List Ino) : Prop := x.1 ≤ 16 ∧ x.2 = xI f x.1
def rdE' (f : Int → List UInt8) (x : Nat × List Ent) : Prop := x.1 ≤ 24 ∧ x.2 = xE f x.1
theorem passR_fix (kd : Int → Int) : ∀ (E : List Ent) (R : List Bool), ¬ cntR R < cntR (passR kd E R) → passR kd E R = R
 | [], R, _ => rfl
 | x :: E, R, h => by
  have h1 : passR kd (x :: E) R = passR kd E (stepR kd R x) := rfl
  rw [h1] at h ⊢
  have h2 := passR_cnt kd E (stepR kd R x)
  by_cases ht : turnsR kd R x
  ·have := (stepR_yes ht).2; omega
  ·rw [stepR_no ht] at h ⊢
   exact passR_fix kd E R h
def rcI (kd : Int → Int) (E : List Ent) (x : Nat × List Bool) : Prop := x.2 = iterR kd E x.1 R0 ∧ x.1 + 1 ≤ cntR x.2 ∧ x.2.length = 16
def rcA (d : Option Dk) (I : List Ino) (E : List Ent) (R : List Bool) : S := ⟨[(0, .d (encD d)), (3, .ptr 0 0)], [(0, .cells 209 ((encX d I E R).map .d))], 1⟩
theorem rcA_ok (d : Option Dk) (I : List Ino) (E : List Ent) (R : List Bool) : (rcA d I E R).ok = true := by
 unfold rcA
 simp only [S.ok, List.all_cons, List.all_nil, Ob.lt, all_d]; rfl
def F16 : List Bool := List.replicate 16 false
set_option maxHeartbeats 8000000 in
theorem xread_ok (d : Option Dk) (hd : DkOK d) : FnC Tryz.prog 80 [.d (encD d)] (.d (.fp 209 (encX d (xI (rdS d) 16) (xE (rdS d) 24) (reachR (kdI (xI (rdS d) 16)) (xE (rdS d) 24))))) := by
 have hi := fun n => inode_ok d hd n
 have he := fun n => entry_ok d hd n
 refine FnC.intro ti_ok Tryz.func80 rfl Tryz.ntmps80 Tryz.call80 rfl (Nat.le_of_ble_eq_true rfl) rfl ?_
 (repeat' ((conv=>whnf);first|with_reducible refine gA ?_|(with_reducible first|refine gB ?_|refine gZ (fun x hx hu=>?_)|refine gY (fun x hx=>?_)|refine gE ?_|refine Both.mk ?_ ?_|refine gS (fun h=>?_) (fun h=>?_)|refine Spl.nt ?_|refine Spl.mk (fun h=>?_) (fun h=>?_))))
 conv => whnf
 refine loop_rule ti_ok (rdI (rdS d)) (fun x => rdA d 9 x.1 x.2 (xE (rdS d) 0) F16) (fun x => 16 - x.1) (0, xI (rdS d) 0) ⟨Nat.zero_le _, rfl⟩ ⟨And.intro rfl (And.intro rfl (And.intro rfl trivial)), And.intro (cells_eq rfl (by with_unfolding_all exact rfl)) trivial, rdA_ok ..⟩ ?_
 intro ⟨k, L⟩ hk0
 have hkl := hk0.1
 have hL := hk0.2
 dsimp only at hkl hL
 by_cases hk : k < 16
 ·have hX := xok_L (rdS d) k 0 (R := F16) rfl
  rw [← hL] at hX
  have hik := hi (k : Nat)
  have hset := xI_set (rdS d) hk
  rw [← hL] at hset
  (repeat' ((conv=>whnf);first|with_reducible refine gA ?_|((with_reducible refine callE_id ?_); (refine CallE.con ⟨_, hik, ?_⟩)) | refine CallP.mk ⟨_, hik, ?_⟩|(with_reducible first|refine gB ?_|refine gZ (fun x hx hu=>?_)|refine gY (fun x hx=>?_)|refine gE ?_|refine Both.mk ?_ ?_|refine gS (fun h=>?_) (fun h=>?_)|refine Spl.nt ?_|refine Spl.mk (fun h=>?_) (fun h=>?_))))
  refine again (k + 1, L.set k (inoAt (rdS d) (k : Nat))) ⟨hk, hset⟩ (by dsimp only; omega) (And.intro rfl (And.intro rfl (And.intro (it_eq (by dsimp only; omega)) trivial))) (And.intro (cells_eq rfl (stX_I hX hk rfl rfl)) trivial) (rdA_ok ..)
 ·have hk16 : k = 16 := by omega
  rw [hk16] at hL
  (repeat' ((conv=>whnf);first|with_reducible refine gA ?_|(with_reducible first|refine gB ?_|refine gZ (fun x hx hu=>?_)|refine gY (fun x hx=>?_)|refine gE ?_|refine Both.mk ?_ ?_|refine gS (fun h=>?_) (fun h=>?_)|refine Spl.nt ?_|refine Spl.mk (fun h=>?_) (fun h=>?_))))
  conv => whnf
  refine loop_rule ti_ok (rdE' (rdS d)) (fun x => rdA d 21 x.1 L x.2 F16) (fun x => 24 - x.1) (0, xE (rdS d) 0) ⟨Nat.zero_le _, rfl⟩ ⟨And.intro rfl (And.intro rfl (And.intro rfl trivial)), And.intro rfl trivial, rdA_ok ..⟩ ?_
  intro ⟨k2, M⟩ hk1
  have hk2l := hk1.1
  have hM := hk1.2
  dsimp only at hk2l hM
  have hX := xok_L (rdS d) 16 k2 (R := F16) rfl
  rw [← hL, ← hM] at hX
  by_cases hk2 : k2 < 24
  ·have hek := he (k2 : Nat)
   have hset := xE_set (rdS d) hk2
   rw [← hM] at hset
   (repeat' ((conv=>whnf);first|with_reducible refine gA ?_|((with_reducible refine callE_id ?_); (refine CallE.con ⟨_, hek, ?_⟩)) | refine CallP.mk ⟨_, hek, ?_⟩|(with_reducible first|refine gB ?_|refine gZ (fun x hx hu=>?_)|refine gY (fun x hx=>?_)|refine gE ?_|refine Both.mk ?_ ?_|refine gS (fun h=>?_) (fun h=>?_)|refine Spl.nt ?_|refine Spl.mk (fun h=>?_) (fun h=>?_))))
   refine again (k2 + 1, M.set k2 (entAt (rdS d) (k2 : Nat))) ⟨hk2, hset⟩ (by dsimp only; omega) (And.intro rfl (And.intro rfl (And.intro (it_eq (by dsimp only; omega)) trivial))) (And.intro (cells_eq rfl (stX_E hX hk2 rfl rfl)) trivial) (rdA_ok ..)
  ·have hk24 : k2 = 24 := by omega
   rw [hk24] at hM
   (repeat' ((conv=>whnf);first|with_reducible refine gA ?_|(with_reducible first|refine gB ?_|refine gZ (fun x hx hu=>?_)|refine gY (fun x hx=>?_)|refine gE ?_|refine Both.mk ?_ ?_|refine gS (fun h=>?_) (fun h=>?_)|refine Spl.nt ?_|refine Spl.mk (fun h=>?_) (fun h=>?_))))
   conv => whnf
   refine loop_rule ti_ok (rcI (kdI L) M) (fun x => rcA d L M x.2) (fun x => 16 - x.1) (0, R0) ⟨rfl, by decide, rfl⟩ ⟨And.intro rfl (And.intro rfl trivial), And.intro (cells_eq rfl (stX_R (n := 0) hX (by decide) rfl rfl)) trivial, rcA_ok ..⟩ ?_
   intro ⟨j, R⟩ hj0
   have hj := hj0.1
   have hjc := hj0.2.1
   have hjl := hj0.2.2
   dsimp only at hj hjc hjl
   have hY : XOK L M R := ⟨hX.i, hX.e, hjl, hX.p⟩
   have hr := reach_ok (d := d) hY
   have hle := cntR_le R
   rw [hjl] at hle
   by_cases hm : cntR R < cntR (passR (kdI L) M R)
   ·rw [decide_eq_true hm] at hr
    (repeat' ((conv=>whnf);first|with_reducible refine gA ?_|((with_reducible refine callI_id ?_); refine CallI.byM hr (by with_unfolding_all exact rfl) rfl ?_)|(with_reducible first|refine gB ?_|refine gZ (fun x hx hu=>?_)|refine gY (fun x hx=>?_)|refine gE ?_|refine Both.mk ?_ ?_|refine gS (fun h=>?_) (fun h=>?_)|refine Spl.nt ?_|refine Spl.mk (fun h=>?_) (fun h=>?_))))
    refine again (j + 1, passR (kdI L) M R) ⟨?_, by dsimp only; omega, by dsimp only; rw [passR_len]; exact hjl⟩ (by dsimp only; omega) (And.intro rfl (And.intro rfl trivial)) (And.intro rfl trivial) (rcA_ok ..)
    show passR (kdI L) M R = iterR (kdI L) M (j + 1) R0
    rw [iterR_add, ← hj]; rfl
   ·rw [decide_eq_false hm] at hr
    have hfix := passR_fix (kdI L) M R hm
    have hre := reach_at (kdI L) M (j := j) (by omega) (by rw [← hj]; exact hfix)
    rw [← hj] at hre
    (repeat' ((conv=>whnf);first|with_reducible refine gA ?_|((with_reducible refine callI_id ?_); refine CallI.byM hr (by with_unfolding_all exact rfl) rfl ?_)|(with_reducible first|refine gB ?_|refine gZ (fun x hx hu=>?_)|refine gY (fun x hx=>?_)|refine gE ?_|refine Both.mk ?_ ?_|refine gS (fun h=>?_) (fun h=>?_)|refine Spl.nt ?_|refine Spl.mk (fun h=>?_) (fun h=>?_))))
    refine ⟨encX d L M (passR (kdI L) M R), ⟨Nat.zero_le _, rfl⟩, ?_⟩
    show AV.d (.fp (209 - 0) _) = _
    rw [hfix, hre, hL, hM]
end Go.Proofs.YthknbpijaoljgaaGreatDoor
namespace Go.Proofs.YthknbpijaoljgaaGreatDoor
open Go.Sy
def oddP (d : Option Dk) (k : Int) : Prop := hasP d (17 + k) ∧ entOk (rdS d (17 + k)) = false
instance (d : Option Dk) (k : Int) : Decidable (oddP d k) := by unfold oddP; infer_instance
set_option maxHeartbeats 4000000 in
theorem odd_ok {d : Option Dk} (hd : DkOK d) (I : List Ino) (E : List Ent) (R : List Bool) (k : Int) (hk : 0 ≤ k ∧ k < 24) : FnC Tryz.prog 148 [.d (.fp 209 (encX d I E R)), .d (.it .i64 k)] (.d (.bl (decide (oddP d k)))) := by
 have hr := read_ok d hd (17 + k)
 have hs := rdS_len hd (17 + k)
 have he := entOf_ok (rdS d (17 + k)) hs
 unfold entOfV at he
 have h0 : (encX d I E R).drop 0 = encX d I E R := rfl
 have hld : ∀ {ty : Ty}, ty.kd.agg = false → ldD ty (encX d I E R) = .d (encD d) := fun {ty} ha => by unfold ldD; rw [ha]; rfl
 by_cases hh : hasP d (17 + k)
 ·rw [show rdE d (17 + k) = 0 from if_pos hh] at hr
  refine FnC.intro ti_ok Tryz.func148 rfl Tryz.ntmps148 Tryz.call148 rfl (Nat.le_of_ble_eq_true rfl) rfl ?_
  (repeat' ((conv=>whnf);first|with_reducible refine gA ?_|((with_reducible refine callE_id ?_); first | (refine CallE.con ⟨_, hr, ?_⟩) | (refine CallE.con ⟨_, he, ?_⟩)) | ((with_reducible refine atD_id ?_); refine AtD.eq h0 ?_) | ((with_reducible refine atA_id ?_); first | refine AtA.eq (hld rfl) ?_ | refine AtA.eq (ld_sec rfl rfl hs) ?_) | ((with_reducible refine letC_id ?_); refine LetC.mk ((encS (rdS d (17 + k))).map AV.d) (st_all _) ?_)|(with_reducible first|refine gB ?_|refine gZ (fun x hx hu=>?_)|refine gY (fun x hx=>?_)|refine gE ?_|refine Both.mk ?_ ?_|refine gS (fun h=>?_) (fun h=>?_)|refine Spl.nt ?_|refine Spl.mk (fun h=>?_) (fun h=>?_))))
  refine bl_of ?_
  unfold oddP
  simp [hh]
 ·rw [show rdE d (17 + k) = 1 from if_neg hh] at hr
  refine FnC.intro ti_ok Tryz.func148 rfl Tryz.ntmps148 Tryz.call148 rfl (Nat.le_of_ble_eq_true rfl) rfl ?_
  (repeat' ((conv=>whnf);first|with_reducible refine gA ?_|((with_reducible refine callE_id ?_); first | (refine CallE.con ⟨_, hr, ?_⟩) | (refine CallE.con ⟨_, he, ?_⟩)) | ((with_reducible refine atD_id ?_); refine AtD.eq h0 ?_) | ((with_reducible refine atA_id ?_); first | refine AtA.eq (hld rfl) ?_ | refine AtA.eq (ld_sec rfl rfl hs) ?_) | ((with_reducible refine letC_id ?_); refine LetC.mk ((encS (rdS d (17 + k))).map AV.d) (st_all _) ?_)|(with_reducible first|refine gB ?_|refine gZ (fun x hx hu=>?_)|refine gY (fun x hx=>?_)|refine gE ?_|refine Both.mk ?_ ?_|refine gS (fun h=>?_) (fun h=>?_)|refine Spl.nt ?_|refine Spl.mk (fun h=>?_) (fun h=>?_))))
  exact bl_ff (fun q => hh q.1)
def ownK (ino : Nat → Ino) (tk : Nat → Bool) (b : Int) (k : Nat) : Nat := ((List.range k).filter fun i => decide ((ino i).k = 1 ∧ b ∈ blks (ino i)) && tk i).length
theorem ownK_yes {ino : Nat → Ino} {tk : Nat → Bool} {b : Int} {k : Nat} (h1 : (ino k).k = 1 ∧ b ∈ blks (ino k)) (h2 : tk k = true) : ownK ino tk b (k + 1) = ownK ino tk b k + 1 := by
 unfold ownK
 rw [List.range_succ, List.filter_append, List.length_append]
 simp [h1, h2]
theorem ownK_no {ino : Nat → Ino} {tk : Nat → Bool} {b : Int} {k : Nat} (h : ¬ (((ino k).k = 1 ∧ b ∈ blks (ino k)) ∧ tk k = true)) : ownK ino tk b (k + 1) = ownK ino tk b k := by
 unfold ownK
 rw [List.range_succ, List.filter_append, List.length_append]
 have : (decide ((ino k).k = 1 ∧ b ∈ blks (ino k)) && tk k) = false := by
  rw [Bool.and_eq_false_iff]
  by_cases h1 : (ino k).k = 1 ∧ b ∈ blks (ino k)
  ·right
   cases h2 : tk k with
   | true => exact (h ⟨h1, h2⟩).elim
   | false => rfl
  ·left; exact decide_eq_false h1
 have e : [k].filter (fun i => decide ((ino i).k = 1 ∧ b ∈ blks (ino i)) && tk i) = [] := by simp only [List.filter, this]
 rw [e]; rfl
theorem ownK_le (ino : Nat → Ino) (tk : Nat → Bool) (b : Int) (k : Nat) : ownK ino tk b k ≤ k := by
 unfold ownK
 exact Nat.le_trans (List.length_filter_le _ _) (by rw [List.length_range]; exact Nat.le_refl _)
theorem ldD_I96 {I : List Ino} {E : List Ent} {R : List Bool} (h : XOK I E R) {ty : Ty} (ha : ty.kd.agg = true) (hz : ty.size = 96) : ldD ty (I.flatMap encI ++ E.flatMap encE ++ R.flatMap fun b => [D.bl b]) = .dg 96 (I.flatMap encI) := by
 unfold ldD
 rw [ha, cond_true, hz, List.append_assoc, List.take_left' (by rw [fm_len encI_len, h.i])]
theorem ldD_I6 {I : List Ino} {n : Int} {x : Ino} (hx : I[n.toNat]? = some x) {ty : Ty} (ha : ty.kd.agg = true) (hz : ty.size = 6) : ldD ty ((I.flatMap encI).drop (n.toNat * 6)) = .dg 6 (encI x) := by
 unfold ldD
 rw [ha, cond_true, hz]
 have := fm_at encI_len [] [] I n.toNat x hx
 have e : ((I.flatMap encI).drop (n.toNat * 6)).take 6 = encI x := by simpa using this
 rw [e]
set_option maxHeartbeats 8000000 in
theorem own_ok {d : Option Dk} (hd : DkOK d) {I : List Ino} {E : List Ent} {R : List Bool} (h : XOK I E R) (b : Int) : FnC Tryz.prog 120 [.d (.fp 209 (encX d I E R)), .d (.it .i64 b)] (.d (.it .i64 (ownK (fun i => I.getD i ino0) (fun i => decide (takP (rdS d) (i : Nat))) b 16 : Nat))) := by
 have h0 : (encX d I E R).drop 0 = encX d I E R := rfl
 have h1 : (encX d I E R).drop 1 = I.flatMap encI ++ E.flatMap encE ++ R.flatMap fun b => [D.bl b] := rfl
 have hld : ∀ {ty : Ty}, ty.kd.agg = false → ldD ty (encX d I E R) = .d (encD d) := fun {ty} ha => by unfold ldD; rw [ha]; rfl
 have ht := fun n => taken_ok d hd n
 refine FnC.intro ti_ok Tryz.func120 rfl Tryz.ntmps120 Tryz.call120 rfl (Nat.le_of_ble_eq_true rfl) rfl ?_
 (repeat' ((conv=>whnf);first|with_reducible refine gA ?_|((with_reducible refine atD_id ?_); refine AtD.eq h1 ?_) | ((with_reducible refine atA_id ?_); refine AtA.eq (ldD_I96 h rfl rfl) ?_)|(with_reducible first|refine gB ?_|refine gZ (fun x hx hu=>?_)|refine gY (fun x hx=>?_)|refine gE ?_|refine Both.mk ?_ ?_|refine gS (fun h=>?_) (fun h=>?_)|refine Spl.nt ?_|refine Spl.mk (fun h=>?_) (fun h=>?_))))
 conv => whnf
 refine loop_rule ti_ok (fun x : Nat × Nat => x.1 ≤ 16 ∧ x.2 = ownK (fun i => I.getD i ino0) (fun i => decide (takP (rdS d) (i : Nat))) b x.1) (fun x => ⟨[(0, .d (.fp 209 (encX d I E R))), (1, .d (.it .i64 b)), (5, .d (.it .i64 (x.2 : Nat))), (11, .dg 96 (I.flatMap encI)), (12, .d (.it .i64 (x.1 : Nat)))], [], 0⟩) (fun x => 16 - x.1) (0, 0) ⟨Nat.zero_le _, rfl⟩ ⟨And.intro rfl (And.intro rfl (And.intro rfl (And.intro rfl (And.intro rfl trivial)))), trivial, rfl⟩ ?_
 intro ⟨k, c⟩ hk0
 have hkl := hk0.1
 have hc := hk0.2
 dsimp only at hkl hc
 by_cases hk : k < 16
 ·have hg : I[((k : Nat) : Int).toNat]? = some (I[k]'(by rw [h.i]; exact hk)) := List.getElem?_eq_getElem _
  have hgd : I.getD k ino0 = I[k]'(by rw [h.i]; exact hk) := by rw [List.getD_eq_getElem?_getD, List.getElem?_eq_getElem]; rfl
  generalize I[k]'(by rw [h.i]; exact hk) = y at hg hgd
  have htk := ht (k : Nat)
  have hcl := ownK_le (fun i => I.getD i ino0) (fun i => decide (takP (rdS d) (i : Nat))) b k
  rw [← hc] at hcl
  have yes : y.k = 1 → b ∈ blks y → takP (rdS d) (k : Nat) → c + 1 = ownK (fun i => I.getD i ino0) (fun i => decide (takP (rdS d) (i : Nat))) b (k + 1) := fun q1 q2 q3 => by
   rw [ownK_yes (ino := fun i => I.getD i ino0) (tk := fun i => decide (takP (rdS d) (i : Nat))) (by rw [hgd]; exact ⟨q1, q2⟩) (decide_eq_true q3), hc]
  have no : ¬ (y.k = 1 ∧ b ∈ blks y ∧ takP (rdS d) (k : Nat)) → c = ownK (fun i => I.getD i ino0) (fun i => decide (takP (rdS d) (i : Nat))) b (k + 1) := fun q => by
   rw [ownK_no (ino := fun i => I.getD i ino0) (tk := fun i => decide (takP (rdS d) (i : Nat))) (fun r => q (by have := r.1; rw [hgd] at this; exact ⟨this.1, this.2, of_decide_eq_true r.2⟩)), hc]
  by_cases hT : takP (rdS d) (k : Nat)
  all_goals first | rw [decide_eq_true hT] at htk | rw [decide_eq_false hT] at htk
  all_goals (repeat' ((conv=>whnf);first|with_reducible refine gA ?_|((with_reducible refine callE_id ?_); first | (refine CallE.con ⟨_, htk, ?_⟩) | refine CallE.inl ?_) | ((with_reducible refine callI_id ?_); first | with_reducible refine CallI.inl ti_ok i152 rfl ?_ | with_reducible refine CallI.inl ti_ok i82 rfl ?_) | with_reducible refine LoopS.unroll ti_ok 5 ?_ | ((with_reducible refine atD_id ?_); refine AtD.eq h0 ?_) | ((with_reducible refine atA_id ?_); first | refine AtA.eq (ldD_I6 hg rfl rfl) ?_ | refine AtA.eq (hld rfl) ?_)|(with_reducible first|refine gB ?_|refine gZ (fun x hx hu=>?_)|refine gY (fun x hx=>?_)|refine gE ?_|refine Both.mk ?_ ?_|refine gS (fun h=>?_) (fun h=>?_)|refine Spl.nt ?_|refine Spl.mk (fun h=>?_) (fun h=>?_))))
  all_goals first
   | (refine again (k + 1, c + 1) ⟨hk, yes (by assumption) (by simp only [blks, List.mem_cons, List.not_mem_nil, or_false]; omega) hT⟩ (by dsimp only; omega) (And.intro rfl (And.intro rfl (And.intro (it_eq (by dsimp only; omega)) (And.intro rfl (And.intro (it_eq (by dsimp only; omega)) trivial))))) trivial rfl; done)
   | (refine again (k + 1, c) ⟨hk, no (fun q => by have q2 := q.2.1; simp only [blks, List.mem_cons, List.not_mem_nil, or_false] at q2; first | exact hT q.2.2 | (have := q.1; omega))⟩ (by dsimp only; omega) (And.intro rfl (And.intro rfl (And.intro rfl (And.intro rfl (And.intro (it_eq (by dsimp only; omega)) trivial))))) trivial rfl; done)
 ·have h16 : k = 16 := by omega
  rw [h16] at hc
  (repeat' ((conv=>whnf);first|with_reducible refine gA ?_|(with_reducible first|refine gB ?_|refine gZ (fun x hx hu=>?_)|refine gY (fun x hx=>?_)|refine gE ?_|refine Both.mk ?_ ?_|refine gS (fun h=>?_) (fun h=>?_)|refine Spl.nt ?_|refine Spl.mk (fun h=>?_) (fun h=>?_))))
  show AV.d (.it .i64 (c : Nat)) = _
  rw [hc]
end Go.Proofs.YthknbpijaoljgaaGreatDoor
namespace Go.Proofs.YthknbpijaoljgaaGreatDoor
open Go.Sy
theorem inoAt_RI (f : Int → List UInt8) (n : Int) : RI (inoAt f n) := by
 unfold inoAt
 split
 ·unfold inoOf
  split
  ·rename_i h; exact h.1
  ·exact .inl ⟨.inl rfl, rfl, rfl, rfl, rfl, rfl⟩
 ·exact .inl ⟨.inl rfl, rfl, rfl, rfl, rfl, rfl⟩
theorem own_parts {y : Ino} (h : RI y) {b : Int} (hb : 1 ≤ b) : ∃ i0 i1 i2 i3 : Nat, (y.b0 = b → i0 = 1) ∧ (¬ y.b0 = b → i0 = 0) ∧ (y.b1 = b → i1 = 1) ∧ (¬ y.b1 = b → i1 = 0) ∧ (y.b2 = b → i2 = 1) ∧ (¬ y.b2 = b → i2 = 0) ∧ (y.b3 = b → i3 = 1) ∧ (¬ y.b3 = b → i3 = 0) ∧
  i0 + i1 + i2 + i3 = if y.k = 1 ∧ b ∈ blks y then 1 else 0 := by
 refine ⟨if y.b0 = b then 1 else 0, if y.b1 = b then 1 else 0, if y.b2 = b then 1 else 0, if y.b3 = b then 1 else 0, fun h => if_pos h, fun h => if_neg h, fun h => if_pos h, fun h => if_neg h, fun h => if_pos h, fun h => if_neg h, fun h => if_pos h, fun h => if_neg h, ?_⟩
 rw [← own1 h hb]
 simp only [blks, List.count_cons, List.count_nil, beq_iff_eq]; omega
def refO (m : List (List UInt8)) (b : Int) (k : Nat) : Nat := ownK (fun i => inoAt (imS m) (i : Nat)) (fun i => decide (takP (imS m) (i : Nat))) b k
theorem refO_step (m : List (List UInt8)) (b : Int) (k : Nat) : refO m b (k + 1) = refO m b k + if takP (imS m) (k : Nat) then (if (inoAt (imS m) (k : Nat)).k = 1 ∧ b ∈ blks (inoAt (imS m) (k : Nat)) then 1 else 0) else 0 := by
 unfold refO
 by_cases hT : takP (imS m) (k : Nat)
 ·rw [if_pos hT]
  by_cases hy : (inoAt (imS m) (k : Nat)).k = 1 ∧ b ∈ blks (inoAt (imS m) (k : Nat))
  ·rw [if_pos hy]
   exact ownK_yes (ino := fun i => inoAt (imS m) (i : Nat)) (tk := fun i => decide (takP (imS m) (i : Nat))) hy (decide_eq_true hT)
  ·rw [if_neg hy]
   exact ownK_no (ino := fun i => inoAt (imS m) (i : Nat)) (tk := fun i => decide (takP (imS m) (i : Nat))) fun q => hy q.1
 ·rw [if_neg hT]
  exact ownK_no (ino := fun i => inoAt (imS m) (i : Nat)) (tk := fun i => decide (takP (imS m) (i : Nat))) fun q => hT (of_decide_eq_true q.2)
set_option maxHeartbeats 8000000 in
theorem refOwn_ok (m : List (List UInt8)) (hm : ImOK m) (b : Int) (hb : 1 ≤ b) : FnC Tryz.prog 88 [.d (encM m), .d (.it .i64 b)] (.d (.it .i64 (refO m b 16 : Nat))) := by
 have hi := fun n => refInode_ok m hm n
 have ht := fun n => refTaken_ok m hm n
 refine FnC.intro ti_ok Tryz.func88 rfl Tryz.ntmps88 Tryz.call88 rfl (Nat.le_of_ble_eq_true rfl) rfl ?_
 (repeat' ((conv=>whnf);first|with_reducible refine gA ?_|(with_reducible first|refine gB ?_|refine gZ (fun x hx hu=>?_)|refine gY (fun x hx=>?_)|refine gE ?_|refine Both.mk ?_ ?_|refine gS (fun h=>?_) (fun h=>?_)|refine Spl.nt ?_|refine Spl.mk (fun h=>?_) (fun h=>?_))))
 conv => whnf
 refine loop_rule ti_ok (fun x : Nat × Nat => x.1 ≤ 16 ∧ x.2 = refO m b x.1) (fun x => ⟨[(0, .d (encM m)), (1, .d (.it .i64 b)), (5, .d (.it .i64 (x.2 : Nat))), (6, .d (.it .i64 (x.1 : Nat)))], [], 0⟩) (fun x => 16 - x.1) (0, 0) ⟨Nat.zero_le _, rfl⟩ ⟨And.intro rfl (And.intro rfl (And.intro rfl (And.intro rfl trivial))), trivial, rfl⟩ ?_
 intro ⟨k, c⟩ hk0
 have hkl := hk0.1
 have hc := hk0.2
 dsimp only at hkl hc
 by_cases hk : k < 16
 ·have hik := hi (k : Nat)
  have htk := ht (k : Nat)
  have hstep := refO_step m b k
  have hRI := inoAt_RI (imS m) (k : Nat)
  generalize inoAt (imS m) (k : Nat) = y at hik hstep hRI
  have hcl : c ≤ k := by rw [hc]; exact ownK_le _ _ _ _
  rw [← hc] at hstep
  have hparts := own_parts hRI hb
  generalize (if y.k = 1 ∧ b ∈ blks y then 1 else 0 : Nat) = q at hstep hparts
  by_cases hT : takP (imS m) (k : Nat)
  ·rw [decide_eq_true hT] at htk
   rw [if_pos hT] at hstep
   (repeat' ((conv=>whnf);first|with_reducible refine gA ?_|((with_reducible refine callE_id ?_); first | (refine CallE.con ⟨_, htk, ?_⟩) | (refine CallE.con ⟨_, hik, ?_⟩)) | with_reducible refine LoopS.unroll ti_ok 5 ?_|(with_reducible first|refine gB ?_|refine gZ (fun x hx hu=>?_)|refine gY (fun x hx=>?_)|refine gE ?_|refine Both.mk ?_ ?_|refine gS (fun h=>?_) (fun h=>?_)|refine Spl.nt ?_|refine Spl.mk (fun h=>?_) (fun h=>?_))))
   all_goals (
    refine again (k + 1, refO m b (k + 1)) ⟨hk, rfl⟩ (by dsimp only; omega) (And.intro rfl (And.intro rfl (And.intro (it_eq ?_) (And.intro (it_eq (by dsimp only; omega)) trivial)))) trivial rfl
    obtain ⟨i0, i1, i2, i3, q1, q2, q3, q4, q5, q6, q7, q8, q9⟩ := hparts
    dsimp only
    omega)
  ·rw [decide_eq_false hT] at htk
   rw [if_neg hT] at hstep
   (repeat' ((conv=>whnf);first|with_reducible refine gA ?_|((with_reducible refine callE_id ?_); first | (refine CallE.con ⟨_, htk, ?_⟩) | (refine CallE.con ⟨_, hik, ?_⟩)) | with_reducible refine LoopS.unroll ti_ok 5 ?_|(with_reducible first|refine gB ?_|refine gZ (fun x hx hu=>?_)|refine gY (fun x hx=>?_)|refine gE ?_|refine Both.mk ?_ ?_|refine gS (fun h=>?_) (fun h=>?_)|refine Spl.nt ?_|refine Spl.mk (fun h=>?_) (fun h=>?_))))
   all_goals (
    refine again (k + 1, refO m b (k + 1)) ⟨hk, rfl⟩ (by dsimp only; omega) (And.intro rfl (And.intro rfl (And.intro (it_eq ?_) (And.intro (it_eq (by dsimp only; omega)) trivial)))) trivial rfl
    dsimp only
    omega)
 ·have h16 : k = 16 := by omega
  rw [h16] at hc
  (repeat' ((conv=>whnf);first|with_reducible refine gA ?_|(with_reducible first|refine gB ?_|refine gZ (fun x hx hu=>?_)|refine gY (fun x hx=>?_)|refine gE ?_|refine Both.mk ?_ ?_|refine gS (fun h=>?_) (fun h=>?_)|refine Spl.nt ?_|refine Spl.mk (fun h=>?_) (fun h=>?_))))
  show AV.d (.it .i64 (c : Nat)) = _
  rw [hc]
end Go.Proofs.YthknbpijaoljgaaGreatDoor
namespace Go.Proofs.YthknbpijaoljgaaGreatDoor
open Go.Sy
def prbP (od : Nat → Bool) (I : List Ino) (E : List Ent) (R : List Bool) (kind k : Nat) : Bool :=
 match kind with
 | 1 => od k
 | 2 => (E.getD k ent0).u && decide ((I.getD (E.getD k ent0).t.toNat ino0).k = 0)
 | 3 => (E.getD k ent0).u && !decide (sndP I R (E.getD k ent0))
 | 4 => (E.getD k ent0).u && (E.take k).any fun o => o.u && (decide (o.p = (E.getD k ent0).p) && decide (o.n = (E.getD k ent0).n))
 | 5 => (E.getD k ent0).u && (E.take k).any fun o => o.u && decide (o.t = (E.getD k ent0).t)
 | _ => false
theorem slF_id {sz len : Nat} {cs : List D} {lo hi : Option Int} {K : AV → Prop} (h : SlF sz len cs lo hi K) : SlF sz len cs lo hi K := h
theorem E_rows {E : List Ent} {R : List Bool} (h : E.length = 24) : (E.map encE).length = 24 ∧ (∀ x ∈ E.map encE, x.length = 4) ∧ (E.map encE).flatten = ((E.flatMap encE) ++ R.flatMap fun b => [D.bl b]).take (24 * 4) := by
 refine ⟨by rw [List.length_map, h], fun x hx => ?_, ?_⟩
 ·obtain ⟨e, _, rfl⟩ := List.mem_map.1 hx; rfl
 ·rw [List.take_left' (by rw [fm_len encE_len, h]), List.flatMap_def]
theorem any_take {α : Type} {q : α → Bool} {L : List α} {j : Nat} {x : α} (h : L[j]? = some x) (ha : (L.take j).any q = false) (hx : q x = false) : (L.take (j + 1)).any q = false := by
 rw [List.take_add_one, h, List.any_append, ha]; simpa using hx
theorem any_yes {α : Type} {q : α → Bool} {L : List α} {j k : Nat} {x : α} (h : L[j]? = some x) (hj : j < k) (hx : q x = true) : (L.take k).any q = true := by
 rw [List.any_eq_true]
 refine ⟨x, ?_, hx⟩
 have := (List.getElem?_eq_some_iff.1 h)
 rw [List.mem_take_iff_getElem]
 exact ⟨j, by have := this.1; omega, this.2⟩
theorem any_r {α : Type} {q : α → Bool} {L : List α} {k : Nat} (h : (L.take k).any q = true) : true = (true && L.any q) := by
 rw [List.any_eq_true] at h
 obtain ⟨x, hx, hq⟩ := h
 rw [Bool.true_and, eq_comm, List.any_eq_true]
 exact ⟨x, List.mem_of_mem_take hx, hq⟩
theorem any_f {α : Type} {q : α → Bool} {L : List α} (h : L.any q = false) : false = (true && L.any q) := by rw [h]; rfl
def lwS (L : List Ent) (f a b : Nat) (k j : Nat) : List (Nat × AV) := [(0, .d (.fs 4 (L.map encE))), (1, .fn (.func f) [] [.ptr a 0, .ptr b 0]), (7, .d (.it .i64 (k : Nat))), (8, .d (.it .i64 (j : Nat)))]
set_option maxHeartbeats 8000000 in
theorem hasE_ok {d : Option Dk} (hd : DkOK d) {I : List Ino} {E : List Ent} {R : List Bool} (h : XOK I E R) (kind k : Nat) (hk : k < 24) (h1 : 1 ≤ kind ∧ kind ≤ 5) : FnC Tryz.prog 119 [.d (.fp 209 (encX d I E R)), .d (.it .i64 (kind : Nat)), .d (.it .i64 (k : Nat))] (.d (.bl (prbP (fun k => decide (oddP d (k : Nat))) I E R kind k))) := by
 have h97 := x_d97 (d := d) h
 have h1d := x_d1 (d := d) (I := I) (E := E) (R := R)
 obtain ⟨e, he⟩ := lt_get (l := E) (k := k) (by rw [h.e]; omega)
 have hmem : e ∈ E := List.mem_of_getElem? he
 have hgd : E.getD k ent0 = e := by rw [List.getD_eq_getElem?_getD, he]; rfl
 have hE := at_E (E := E) (R := R) (n := (k : Nat)) he
 have hod := odd_ok hd I E R (k : Nat) (by omega)
 have hsn := sound_ok (d := d) h hmem
 have hxe : encE e = [.bl e.u, .it .i64 e.p, .st e.n, .it .i64 e.t] := rfl
 have hp := h.p e hmem
 have hrows := E_rows (R := R) h.e
 unfold prbP
 rw [hgd]
 have hk5 : kind = 1 ∨ kind = 2 ∨ kind = 3 ∨ kind = 4 ∨ kind = 5 := by omega
 cases hu : e.u with
 | false =>
  rw [hu] at hxe
  rw [hxe] at hE hsn
  refine FnC.intro ti_ok Tryz.func119 rfl Tryz.ntmps119 Tryz.call119 rfl (Nat.le_of_ble_eq_true rfl) rfl ?_
  rcases hk5 with rfl | rfl | rfl | rfl | rfl
  all_goals (repeat' ((conv=>whnf);first|with_reducible refine gA ?_|((with_reducible refine callE_id ?_); first | (refine CallE.con ⟨_, hod, ?_⟩) | (refine CallE.inl ?_)) | ((with_reducible refine callI_id ?_); with_reducible refine CallI.inl ti_ok i149 rfl ?_) | ((with_reducible refine atD_id ?_); first | refine AtD.eq h97 ?_ | refine AtD.eq hE ?_)|(with_reducible first|refine gB ?_|refine gZ (fun x hx hu=>?_)|refine gY (fun x hx=>?_)|refine gE ?_|refine Both.mk ?_ ?_|refine gS (fun h=>?_) (fun h=>?_)|refine Spl.nt ?_|refine Spl.mk (fun h=>?_) (fun h=>?_))))
  all_goals rfl
 | true =>
  obtain ⟨p1, p2, t1, t2⟩ := hp hu
  rw [hu] at hxe
  rw [hxe] at hE hsn
  obtain ⟨y, hy⟩ := lt_get (l := I) (k := e.t.toNat) (by rw [h.i]; omega)
  have hI := at_I (E := E) (R := R) hy
  have hyg : I.getD e.t.toNat ino0 = y := by rw [List.getD_eq_getElem?_getD, hy]; rfl
  rcases hk5 with rfl | rfl | rfl | rfl | rfl
  ·refine FnC.intro ti_ok Tryz.func119 rfl Tryz.ntmps119 Tryz.call119 rfl (Nat.le_of_ble_eq_true rfl) rfl ?_
   (repeat' ((conv=>whnf);first|with_reducible refine gA ?_|((with_reducible refine callE_id ?_); first | (refine CallE.con ⟨_, hod, ?_⟩)) | ((with_reducible refine atD_id ?_); first | refine AtD.eq h97 ?_ | refine AtD.eq hE ?_)|(with_reducible first|refine gB ?_|refine gZ (fun x hx hu=>?_)|refine gY (fun x hx=>?_)|refine gE ?_|refine Both.mk ?_ ?_|refine gS (fun h=>?_) (fun h=>?_)|refine Spl.nt ?_|refine Spl.mk (fun h=>?_) (fun h=>?_))))
   rfl
  ·rw [hyg]
   refine FnC.intro ti_ok Tryz.func119 rfl Tryz.ntmps119 Tryz.call119 rfl (Nat.le_of_ble_eq_true rfl) rfl ?_
   (repeat' ((conv=>whnf);first|with_reducible refine gA ?_|((with_reducible refine atD_id ?_); first | refine AtD.eq h97 ?_ | refine AtD.eq hE ?_ | refine AtD.eq h1d ?_ | refine AtD.eq hI ?_)|(with_reducible first|refine gB ?_|refine gZ (fun x hx hu=>?_)|refine gY (fun x hx=>?_)|refine gE ?_|refine Both.mk ?_ ?_|refine gS (fun h=>?_) (fun h=>?_)|refine Spl.nt ?_|refine Spl.mk (fun h=>?_) (fun h=>?_))))
   refine bl_eq ?_
   show (y.k == 0) = (true && decide (y.k = 0))
   rw [Bool.true_and]
   exact (by by_cases h0 : y.k = 0 <;> simp [h0])
  ·by_cases hs : sndP I R e
   all_goals first | rw [decide_eq_true hs] at hsn | rw [decide_eq_false hs] at hsn
   all_goals refine FnC.intro ti_ok Tryz.func119 rfl Tryz.ntmps119 Tryz.call119 rfl (Nat.le_of_ble_eq_true rfl) rfl ?_
   all_goals (repeat' ((conv=>whnf);first|with_reducible refine gA ?_|((with_reducible refine callE_id ?_); (refine CallE.con ⟨_, hsn, ?_⟩)) | ((with_reducible refine atD_id ?_); first | refine AtD.eq h97 ?_ | refine AtD.eq hE ?_)|(with_reducible first|refine gB ?_|refine gZ (fun x hx hu=>?_)|refine gY (fun x hx=>?_)|refine gE ?_|refine Both.mk ?_ ?_|refine gS (fun h=>?_) (fun h=>?_)|refine Spl.nt ?_|refine Spl.mk (fun h=>?_) (fun h=>?_))))
   ·rw [decide_eq_true hs]; rfl
   ·rw [decide_eq_false hs]; rfl
  ·have hlt : (E.take k).length = k := by rw [List.length_take, h.e]; omega
   have hlen : ((E.take k).map encE).length = k := by rw [List.length_map, hlt]
   refine FnC.intro ti_ok Tryz.func119 rfl Tryz.ntmps119 Tryz.call119 rfl (Nat.le_of_ble_eq_true rfl) rfl ?_
   (repeat' ((conv=>whnf);first|with_reducible refine gA ?_|((with_reducible refine callE_id ?_); (refine CallE.inl ?_)) | ((with_reducible refine callI_id ?_); first | with_reducible refine CallI.inl ti_ok i149 rfl ?_ | with_reducible refine CallI.inl ti_ok i176 rfl ?_ | with_reducible refine CallI.inl ti_ok i198 rfl ?_) | ((with_reducible refine atD_id ?_); first | refine AtD.eq h97 ?_ | refine AtD.eq hE ?_) | ((with_reducible refine slF_id ?_); refine SlF.mk ⟨E.map encE, hrows, ?_⟩) | ((with_reducible refine letE_id ?_); refine LetE.mk ((E.take k).map encE) (List.map_take) ?_)|(with_reducible first|refine gB ?_|refine gZ (fun x hx hu=>?_)|refine gY (fun x hx=>?_)|refine gE ?_|refine Both.mk ?_ ?_|refine gS (fun h=>?_) (fun h=>?_)|refine Spl.nt ?_|refine Spl.mk (fun h=>?_) (fun h=>?_))))
   refine loop_mem0 ti_ok (fun j : Nat => j ≤ k ∧ ((E.take k).take j).any (fun o => o.u && (decide (o.p = e.p) && decide (o.n = e.n))) = false) (lwS (E.take k) 177 3 4 k) (fun j => k - j) 0 ⟨Nat.zero_le _, rfl⟩ ⟨rfl, rfl, it_eq (by rw [hlen]), rfl, trivial⟩ rfl ?_
   intro j ⟨hj, ha⟩
   by_cases hjk : j < k
   ·(repeat' ((conv=>whnf);first|with_reducible refine gA ?_|((with_reducible refine callI_id ?_); first | with_reducible refine CallI.inl ti_ok i177 rfl ?_ | with_reducible refine CallI.inl ti_ok i150 rfl ?_)|(with_reducible first|refine gB ?_|refine gZ (fun x hx hu=>?_)|refine gY (fun x hx=>?_)|refine gE ?_|refine Both.mk ?_ ?_|refine gS (fun h=>?_) (fun h=>?_)|refine Spl.nt ?_|refine Spl.mk (fun h=>?_) (fun h=>?_))))
    all_goals (have hx' := hx; first
     | (refine againM0 (j + 1) ⟨hjk, any_take hx ha (by first | (simp [(by assumption : x.u = false)]; done) | (simp [(by assumption : ¬ x.p = e.p)]; done) | (simp [(by assumption : ¬ x.n = e.n)]; done))⟩ (by dsimp only; omega) (And.intro rfl (And.intro rfl (And.intro rfl (And.intro (it_eq (by omega)) trivial)))) (by (repeat (first | exact trivial | refine And.intro rfl ?_))) rfl; done)
     | (refine bl_eq (any_r (any_yes hx hjk (by simp [(by assumption : x.u = true), (by assumption : x.p = e.p), (by assumption : x.n = e.n)]))); done))
   ·have hjk2 : j = k := by omega
    rw [hjk2, List.take_of_length_le (by rw [List.length_take]; omega)] at ha
    (repeat' ((conv=>whnf);first|with_reducible refine gA ?_|(with_reducible first|refine gB ?_|refine gZ (fun x hx hu=>?_)|refine gY (fun x hx=>?_)|refine gE ?_|refine Both.mk ?_ ?_|refine gS (fun h=>?_) (fun h=>?_)|refine Spl.nt ?_|refine Spl.mk (fun h=>?_) (fun h=>?_))))
    exact bl_eq (any_f ha)
  ·have hlt : (E.take k).length = k := by rw [List.length_take, h.e]; omega
   have hlen : ((E.take k).map encE).length = k := by rw [List.length_map, hlt]
   refine FnC.intro ti_ok Tryz.func119 rfl Tryz.ntmps119 Tryz.call119 rfl (Nat.le_of_ble_eq_true rfl) rfl ?_
   (repeat' ((conv=>whnf);first|with_reducible refine gA ?_|((with_reducible refine callE_id ?_); (refine CallE.inl ?_)) | ((with_reducible refine callI_id ?_); first | with_reducible refine CallI.inl ti_ok i149 rfl ?_ | with_reducible refine CallI.inl ti_ok i176 rfl ?_ | with_reducible refine CallI.inl ti_ok i198 rfl ?_) | ((with_reducible refine atD_id ?_); first | refine AtD.eq h97 ?_ | refine AtD.eq hE ?_) | ((with_reducible refine slF_id ?_); refine SlF.mk ⟨E.map encE, hrows, ?_⟩) | ((with_reducible refine letE_id ?_); refine LetE.mk ((E.take k).map encE) (List.map_take) ?_)|(with_reducible first|refine gB ?_|refine gZ (fun x hx hu=>?_)|refine gY (fun x hx=>?_)|refine gE ?_|refine Both.mk ?_ ?_|refine gS (fun h=>?_) (fun h=>?_)|refine Spl.nt ?_|refine Spl.mk (fun h=>?_) (fun h=>?_))))
   refine loop_mem0 ti_ok (fun j : Nat => j ≤ k ∧ ((E.take k).take j).any (fun o => o.u && decide (o.t = e.t)) = false) (lwS (E.take k) 177 3 4 k) (fun j => k - j) 0 ⟨Nat.zero_le _, rfl⟩ ⟨rfl, rfl, it_eq (by rw [hlen]), rfl, trivial⟩ rfl ?_
   intro j ⟨hj, ha⟩
   by_cases hjk : j < k
   ·(repeat' ((conv=>whnf);first|with_reducible refine gA ?_|((with_reducible refine callI_id ?_); first | with_reducible refine CallI.inl ti_ok i177 rfl ?_ | with_reducible refine CallI.inl ti_ok i151 rfl ?_)|(with_reducible first|refine gB ?_|refine gZ (fun x hx hu=>?_)|refine gY (fun x hx=>?_)|refine gE ?_|refine Both.mk ?_ ?_|refine gS (fun h=>?_) (fun h=>?_)|refine Spl.nt ?_|refine Spl.mk (fun h=>?_) (fun h=>?_))))
    all_goals (have hx' := hx; first
     | (refine againM0 (j + 1) ⟨hjk, any_take hx ha (by first | (simp [(by assumption : x.u = false)]; done) | (simp [(by assumption : ¬ x.t = e.t)]; done))⟩ (by dsimp only; omega) (And.intro rfl (And.intro rfl (And.intro rfl (And.intro (it_eq (by omega)) trivial)))) (by (repeat (first | exact trivial | refine And.intro rfl ?_))) rfl; done)
     | (refine bl_eq (any_r (any_yes hx hjk (by simp [(by assumption : x.u = true), (by assumption : x.t = e.t)]))); done))
   ·have hjk2 : j = k := by omega
    rw [hjk2, List.take_of_length_le (by rw [List.length_take]; omega)] at ha
    (repeat' ((conv=>whnf);first|with_reducible refine gA ?_|(with_reducible first|refine gB ?_|refine gZ (fun x hx hu=>?_)|refine gY (fun x hx=>?_)|refine gE ?_|refine Both.mk ?_ ?_|refine gS (fun h=>?_) (fun h=>?_)|refine Spl.nt ?_|refine Spl.mk (fun h=>?_) (fun h=>?_))))
    exact bl_eq (any_f ha)
end Go.Proofs.YthknbpijaoljgaaGreatDoor
namespace Go.Proofs.YthknbpijaoljgaaGreatDoor
open Go.Sy
theorem kdI_at (f : Int → List UInt8) {n : Int} (h : 0 ≤ n ∧ n < 16) : kdI (xI f 16) n = (inoAt f n).k := by
 unfold kdI
 have h1 : n.toNat < (xI f 16).length := by rw [xI_len]; omega
 rw [List.getD_eq_getElem?_getD, List.getElem?_eq_getElem h1, Option.getD_some, xI_get, if_pos (by omega), Int.toNat_of_nonneg h.1]
theorem xE_at (f : Int → List UInt8) {k : Nat} (h : k < 24) : (xE f 24)[k]? = some (entAt f (k : Nat)) := by
 have h1 : k < (xE f 24).length := by rw [xE_len]; omega
 rw [List.getElem?_eq_getElem h1, xE_get, if_pos h]
theorem xE_getD (f : Int → List UInt8) {k : Nat} (h : k < 24) : (xE f 24).getD k ent0 = entAt f (k : Nat) := by rw [List.getD_eq_getElem?_getD, xE_at f h]; rfl
section
variable {R : List Bool} {n : Nat} {b : Bool} {ty : Ty} {off i j : Nat}
theorem ldR (hb : R[n]? = some b) (ha : ty.kd.agg = false) (ho : off = 0 + n * 1) : ldA ty off ((R.map D.bl).map AV.d) = .d (.bl b) := by
 subst ho
 unfold ldA
 rw [ha, cond_false, List.getD_eq_getElem?_getD, List.getElem?_map, List.getElem?_map, show 0 + n * 1 = n by omega, hb]; rfl
theorem ldRs (h : R.length = 16) (ha : ty.kd.agg = true) (hz : ty.size = 16) : ldA ty 0 ((R.map D.bl).map AV.d) = .dg 16 (R.map D.bl) := by
 unfold ldA
 rw [ha, cond_true, hz, List.drop_zero, List.take_of_length_le (by simp [h])]
 unfold mkAg
 rw [allD_map]
theorem ldRs' (h : R.length = 16) {a : List AV} (hx : a = (R.map D.bl).map AV.d) (ha : ty.kd.agg = true) (hz : ty.size = 16) : ldA ty 0 a = .dg 16 (R.map D.bl) := by rw [hx]; exact ldRs h ha hz
theorem stR (hn : n < R.length) (hi : i = 0 + n * 1) (hj : j = i + 1) : ((R.map D.bl).map AV.d).take i ++ [AV.d (.bl b)] ++ ((R.map D.bl).map AV.d).drop j = ((R.set n b).map D.bl).map AV.d := by
 subst hi hj
 rw [show 0 + n * 1 = n by omega, List.map_set, List.map_set, List.set_eq_take_append_cons_drop, if_pos (by simpa using hn)]; simp
end
def rcS (m : List (List UInt8)) (j : Nat) (R : List Bool) : S := ⟨[(0, .d (encM m)), (2, .ptr 0 0), (3, .ptr 1 0), (4, .d (.it .i64 (j : Nat)))], [(0, .cells 16 ((F16.map D.bl).map .d)), (1, .cells 16 ((R.map D.bl).map .d))], 2⟩
def rcS2 (m : List (List UInt8)) (j k : Nat) (R : List Bool) : S := ⟨[(0, .d (encM m)), (2, .ptr 0 0), (3, .ptr 1 0), (4, .d (.it .i64 (j : Nat))), (5, .d (.it .i64 (k : Nat)))], [(0, .cells 16 ((F16.map D.bl).map .d)), (1, .cells 16 ((R.map D.bl).map .d))], 2⟩
theorem rcS_ok (m : List (List UInt8)) (j : Nat) (R : List Bool) : (rcS m j R).ok = true := by
 unfold rcS
 simp only [S.ok, List.all_cons, List.all_nil, Ob.lt, all_d]; rfl
theorem rcS2_ok (m : List (List UInt8)) (j k : Nat) (R : List Bool) : (rcS2 m j k R).ok = true := by
 unfold rcS2
 simp only [S.ok, List.all_cons, List.all_nil, Ob.lt, all_d]; rfl
theorem stepR_if {kd : Int → Int} {R : List Bool} {x : Ent} {r : Bool} {k3 k4 : Int} (hu : x.u = true) (hr : R[x.p.toNat]? = some r) (h3 : kd x.p = k3) (h4 : kd x.t = k4) :
  stepR kd R x = if r = true ∧ k3 = 2 ∧ k4 ≠ 0 then R.set x.t.toNat true else R := by
 have e : R.getD x.p.toNat false = r := by rw [List.getD_eq_getElem?_getD, hr]; rfl
 unfold stepR
 rw [e, h3, h4]
 by_cases hc : r = true ∧ k3 = 2 ∧ k4 ≠ 0
 ·rw [if_pos ⟨hu, hc⟩, if_pos hc]
 ·rw [if_neg (fun q => hc q.2), if_neg hc]
theorem iterR_succ (kd : Int → Int) (E : List Ent) (n : Nat) (R : List Bool) : iterR kd E (n + 1) R = passR kd E (iterR kd E n R) := by rw [iterR_add]; rfl
set_option maxHeartbeats 8000000 in
theorem refRch_ok (m : List (List UInt8)) (hm : ImOK m) : FnC Tryz.prog 86 [.d (encM m)] (.dg 16 ((reachR (kdI (xI (imS m) 16)) (xE (imS m) 24)).map D.bl)) := by
 have hi := fun n => refInode_ok m hm n
 have he := fun n => refEntry_ok m hm n
 have hE := fun {k : Nat} (h : k < 24) => xE_at (imS m) h
 have hkd := fun {n : Int} (h : 0 ≤ n ∧ n < 16) => kdI_at (imS m) h
 have hEl := xE_len (imS m) 24
 have hRE := fun k : Nat => entAt_RE (imS m) (k : Nat)
 unfold reachR
 generalize kdI (xI (imS m) 16) = kd at *
 generalize xE (imS m) 24 = E at *
 refine FnC.intro ti_ok Tryz.func86 rfl Tryz.ntmps86 Tryz.call86 rfl (Nat.le_of_ble_eq_true rfl) rfl ?_
 (repeat' ((conv=>whnf);first|with_reducible refine gA ?_|(with_reducible first|refine gB ?_|refine gZ (fun x hx hu=>?_)|refine gY (fun x hx=>?_)|refine gE ?_|refine Both.mk ?_ ?_|refine gS (fun h=>?_) (fun h=>?_)|refine Spl.nt ?_|refine Spl.mk (fun h=>?_) (fun h=>?_))))
 conv => whnf
 refine loop_rule ti_ok (fun x : Nat × List Bool => x.1 ≤ 16 ∧ x.2 = iterR kd E x.1 R0) (fun x => rcS m x.1 x.2) (fun x => 16 - x.1) (0, R0) ⟨Nat.zero_le _, rfl⟩ ⟨And.intro rfl (And.intro rfl (And.intro rfl (And.intro rfl trivial))), And.intro (cells_eq rfl (by with_unfolding_all exact rfl)) (And.intro (cells_eq rfl (by with_unfolding_all exact rfl)) trivial), rcS_ok ..⟩ ?_
 intro ⟨j, R1⟩ hj0
 have hj := hj0.1
 have hR1 := hj0.2
 dsimp only at hj hR1
 have hl1 : R1.length = 16 := by rw [hR1, iterR_len]; rfl
 by_cases hj16 : j < 16
 ·have hnext := iterR_succ kd E j R0
  rw [← hR1] at hnext
  (repeat' ((conv=>whnf);first|with_reducible refine gA ?_|(with_reducible first|refine gB ?_|refine gZ (fun x hx hu=>?_)|refine gY (fun x hx=>?_)|refine gE ?_|refine Both.mk ?_ ?_|refine gS (fun h=>?_) (fun h=>?_)|refine Spl.nt ?_|refine Spl.mk (fun h=>?_) (fun h=>?_))))
  conv => whnf
  refine loop_rule ti_ok (fun x : Nat × List Bool => x.1 ≤ 24 ∧ x.2 = passR kd (E.take x.1) R1) (fun x => rcS2 m j x.1 x.2) (fun x => 24 - x.1) (0, R1) ⟨Nat.zero_le _, rfl⟩ ⟨And.intro rfl (And.intro rfl (And.intro rfl (And.intro rfl (And.intro rfl trivial)))), And.intro rfl (And.intro rfl trivial), rcS2_ok ..⟩ ?_
  intro ⟨k, R⟩ hk0
  have hk := hk0.1
  have hR := hk0.2
  dsimp only at hk hR
  have hl : R.length = 16 := by rw [hR, passR_len]; exact hl1
  by_cases hk24 : k < 24
  ·have hek := he (k : Nat)
   have hst := passR_snoc kd (hE hk24) R1
   rw [← hR] at hst
   have hREk := hRE k
   generalize entAt (imS m) (k : Nat) = x at *
   have hxe : encE x = [.bl x.u, .it .i64 x.p, .st x.n, .it .i64 x.t] := rfl
   cases hu : x.u with
   | false =>
    rw [hu] at hxe
    rw [hxe] at hek
    have hno : stepR kd R x = R := if_neg (fun q => by rw [hu] at q; cases q.1)
    have hst' := hst.trans hno
    (repeat' ((conv=>whnf);first|with_reducible refine gA ?_|((with_reducible refine callE_id ?_); (refine CallE.con ⟨_, hek, ?_⟩))|(with_reducible first|refine gB ?_|refine gZ (fun x hx hu=>?_)|refine gY (fun x hx=>?_)|refine gE ?_|refine Both.mk ?_ ?_|refine gS (fun h=>?_) (fun h=>?_)|refine Spl.nt ?_|refine Spl.mk (fun h=>?_) (fun h=>?_))))
    refine again (k + 1, R) ⟨hk24, hst'.symm⟩ (by dsimp only; omega) (And.intro rfl (And.intro rfl (And.intro rfl (And.intro rfl (And.intro (it_eq (by dsimp only; omega)) trivial))))) (And.intro rfl (And.intro rfl trivial)) (rcS2_ok ..)
   | true =>
    rw [hu] at hxe
    rw [hxe] at hek
    have hb : 0 ≤ x.p ∧ x.p < 16 ∧ 1 ≤ x.t ∧ x.t < 16 := by
     rcases hREk with q | q
     ·rw [hu] at q; cases q.1
     ·exact ⟨q.2.1, q.2.2.1, q.2.2.2.1, q.2.2.2.2.1⟩
    have hp := hi x.p
    have ht := hi x.t
    obtain ⟨r, hr⟩ := lt_get (l := R) (k := x.p.toNat) (by omega)
    have hif := stepR_if hu hr (hkd ⟨hb.1, hb.2.1⟩) (hkd ⟨by omega, hb.2.2.2⟩)
    have hst2 := hst.trans hif
    have htl : x.t.toNat < R.length := by omega
    cases r
    all_goals (repeat' ((conv=>whnf);first|with_reducible refine gA ?_|((with_reducible refine callE_id ?_); first | (refine CallE.con ⟨_, hek, ?_⟩) | (refine CallE.con ⟨_, hp, ?_⟩) | (refine CallE.con ⟨_, ht, ?_⟩)) | ((with_reducible refine atA_id ?_); refine AtA.eq (ldR hr rfl rfl) ?_)|(with_reducible first|refine gB ?_|refine gZ (fun x hx hu=>?_)|refine gY (fun x hx=>?_)|refine gE ?_|refine Both.mk ?_ ?_|refine gS (fun h=>?_) (fun h=>?_)|refine Spl.nt ?_|refine Spl.mk (fun h=>?_) (fun h=>?_))))
    all_goals first
     | (refine again (k + 1, R) ⟨hk24, Eq.symm (hst2.trans (if_neg (fun q => by first | (cases q.1; done) | exact (by assumption : ¬ _) q.2.1 | exact q.2.2 (by assumption))))⟩ (by dsimp only; omega) (And.intro rfl (And.intro rfl (And.intro rfl (And.intro rfl (And.intro (it_eq (by dsimp only; omega)) trivial))))) (And.intro rfl (And.intro rfl trivial)) (rcS2_ok ..); done)
     | (refine again (k + 1, R.set x.t.toNat true) ⟨hk24, Eq.symm (hst2.trans (if_pos ⟨rfl, by assumption, by assumption⟩))⟩ (by dsimp only; omega) (And.intro rfl (And.intro rfl (And.intro rfl (And.intro rfl (And.intro (it_eq (by dsimp only; omega)) trivial))))) (And.intro rfl (And.intro (cells_eq rfl (stR htl rfl rfl)) trivial)) (rcS2_ok ..); done)
  ·have hkE : E.take k = E := List.take_of_length_le (by omega)
   rw [hkE, ← hnext] at hR
   (repeat' ((conv=>whnf);first|with_reducible refine gA ?_|(with_reducible first|refine gB ?_|refine gZ (fun x hx hu=>?_)|refine gY (fun x hx=>?_)|refine gE ?_|refine Both.mk ?_ ?_|refine gS (fun h=>?_) (fun h=>?_)|refine Spl.nt ?_|refine Spl.mk (fun h=>?_) (fun h=>?_))))
   refine again (j + 1, R) ⟨hj16, hR⟩ (by dsimp only; omega) (And.intro rfl (And.intro rfl (And.intro rfl (And.intro (it_eq (by dsimp only; omega)) trivial)))) (And.intro rfl (And.intro rfl trivial)) (rcS_ok ..)
 ·have h16 : j = 16 := by omega
  rw [h16] at hR1
  (repeat' ((conv=>whnf);first|with_reducible refine gA ?_|((with_reducible refine atA_id ?_); refine AtA.eq (ldRs hl1 rfl rfl) ?_)|(with_reducible first|refine gB ?_|refine gZ (fun x hx hu=>?_)|refine gY (fun x hx=>?_)|refine gE ?_|refine Both.mk ?_ ?_|refine gS (fun h=>?_) (fun h=>?_)|refine Spl.nt ?_|refine Spl.mk (fun h=>?_) (fun h=>?_))))
  conv => whnf
  generalize hv : ldA _ 0 _ = v
  have hv' : v = .dg 16 (R1.map D.bl) := by
   rw [← hv]
   refine ldRs' hl1 ?_ rfl rfl
   show [] ++ _ ++ List.drop (0 + 16) ((F16.map D.bl).map AV.d) = _
   rw [List.nil_append, show List.drop (0 + 16) ((F16.map D.bl).map AV.d) = [] from rfl, List.append_nil]
  rw [hv']
  show AV.dg 16 (R1.map D.bl) = _
  rw [hR1]
end Go.Proofs.YthknbpijaoljgaaGreatDoor
namespace Go.Proofs.YthknbpijaoljgaaGreatDoor
open Go.Sy
theorem down1_d (n : Nat) (l : List D) : (l.map AV.d).map (AV.down1 n) = l.map AV.d := by rw [List.map_map]; rfl
theorem ldRp {R : List Bool} {n : Nat} {b : Bool} {ty : Ty} {off : Nat} (hb : R[n]? = some b) (ha : ty.kd.agg = false) (ho : off = 0 + n * 1) : ldA ty off ((R.map D.bl).map AV.d) = .d (.bl b) := ldR hb ha ho
def e13 (m : List (List UInt8)) (e : Ent) (kind k j : Nat) : S := ⟨[(0, .d (encM m)), (1, .d (.it .i64 (k : Nat))), (2, .d (.it .i64 (kind : Nat))), (9, .ptr 1 0), (12, .d (.it .i64 (j : Nat)))], [(1, .cells 4 [.d (.bl true), .d (.it .i64 e.p), .d (.st e.n), .d (.it .i64 e.t)])], 2⟩
set_option maxHeartbeats 8000000 in
theorem refEnt13_ok (m : List (List UInt8)) (hm : ImOK m) (R : List Bool) (hR : R.length = 16) (kind k : Nat) (hk : k < 24) (h1 : 1 ≤ kind ∧ kind ≤ 5) : FnC Tryz.prog 87 [.d (encM m), .d (.it .i64 (k : Nat)), .d (.it .i64 (kind : Nat)), .dg 16 (R.map D.bl)] (.d (.bl (prbP (fun k => decide (17 + k < m.length ∧ entOk (imS m (17 + (k : Nat))) = false)) (xI (imS m) 16) (xE (imS m) 24) R kind k))) := by
 have hi := fun n => refInode_ok m hm n
 have he := fun n => refEntry_ok m hm n
 have hek := he (k : Nat)
 have hEg := xE_getD (imS m) hk
 have hEa := fun {j : Nat} (h : j < 24) => xE_at (imS m) h
 have hko := fun {n : Int} (h : 0 ≤ n ∧ n < 16) => kdI_at (imS m) h
 unfold kdI at hko
 have hk5 : kind = 1 ∨ kind = 2 ∨ kind = 3 ∨ kind = 4 ∨ kind = 5 := by omega
 have hREk := entAt_RE (imS m) (k : Nat)
 have hL : (m.map encS).length = m.length := List.length_map ..
 have hEl : (xE (imS m) 24).length = 24 := xE_len (imS m) 24
 generalize hxk : entAt (imS m) (k : Nat) = e at *
 generalize hEE : xE (imS m) 24 = E at *
 have hxe : encE e = [.bl e.u, .it .i64 e.p, .st e.n, .it .i64 e.t] := rfl
 rcases hk5 with rfl | hk4
 ·show FnC _ _ _ (.d (.bl (decide _)))
  by_cases hin : 17 + k < m.length
  ·obtain ⟨s, hs⟩ := lt_get hin
   have hs' : m[((17 : Int) + (k : Nat)).toNat]? = some s := by rw [show (17 + (k : Nat) : Int).toNat = 17 + k by omega]; exact hs
   have hsm : imS m (17 + (k : Nat)) = s := by unfold imS; rw [List.getD_eq_getElem?_getD, hs']; rfl
   have hs32 := hm s (List.mem_of_getElem? hs)
   have hof := refEntOf_ok s hs32
   unfold entOfV at hof
   refine FnC.intro ti_ok Tryz.func87 rfl Tryz.ntmps87 Tryz.call87 rfl (Nat.le_of_ble_eq_true rfl) rfl ?_
   (repeat' ((conv=>whnf);first|with_reducible refine gA ?_|((with_reducible refine callE_id ?_); first | (refine CallE.con ⟨_, hek, ?_⟩) | (refine CallE.con ⟨_, hof, ?_⟩)) | with_reducible refine at_him (x := s) (by omega) hs' ?_ | ((with_reducible refine atA_id ?_); refine AtA.eq (ldD_sec rfl rfl hs32) ?_)|(with_reducible first|refine gB ?_|refine gZ (fun x hx hu=>?_)|refine gY (fun x hx=>?_)|refine gE ?_|refine Both.mk ?_ ?_|refine gS (fun h=>?_) (fun h=>?_)|refine Spl.nt ?_|refine Spl.mk (fun h=>?_) (fun h=>?_))))
   refine bl_of ?_
   show (!entOk s) = true ↔ _
   rw [hsm]; simp [hin]
  ·refine FnC.intro ti_ok Tryz.func87 rfl Tryz.ntmps87 Tryz.call87 rfl (Nat.le_of_ble_eq_true rfl) rfl ?_
   (repeat' ((conv=>whnf);first|with_reducible refine gA ?_|((with_reducible refine callE_id ?_); first | (refine CallE.con ⟨_, hek, ?_⟩))|(with_reducible first|refine gB ?_|refine gZ (fun x hx hu=>?_)|refine gY (fun x hx=>?_)|refine gE ?_|refine Both.mk ?_ ?_|refine gS (fun h=>?_) (fun h=>?_)|refine Spl.nt ?_|refine Spl.mk (fun h=>?_) (fun h=>?_))))
   exact bl_ff (fun q => hin q.1)
 by_cases hu : e.u = false
 ·have hv : prbP (fun k => decide (17 + k < m.length ∧ entOk (imS m (17 + (k : Nat))) = false)) (xI (imS m) 16) E R kind k = false := by
   unfold prbP
   rw [hEg, hu]
   rcases hk4 with rfl | rfl | rfl | rfl <;> rfl
  rw [hv]
  rw [hu] at hxe
  rw [hxe] at hek
  refine FnC.intro ti_ok Tryz.func87 rfl Tryz.ntmps87 Tryz.call87 rfl (Nat.le_of_ble_eq_true rfl) rfl ?_
  rcases hk4 with rfl | rfl | rfl | rfl
  all_goals (repeat' ((conv=>whnf);first|with_reducible refine gA ?_|((with_reducible refine callE_id ?_); (refine CallE.con ⟨_, hek, ?_⟩))|(with_reducible first|refine gB ?_|refine gZ (fun x hx hu=>?_)|refine gY (fun x hx=>?_)|refine gE ?_|refine Both.mk ?_ ?_|refine gS (fun h=>?_) (fun h=>?_)|refine Spl.nt ?_|refine Spl.mk (fun h=>?_) (fun h=>?_))))
  all_goals rfl
 have hu : e.u = true := by simpa using hu
 rw [hu] at hxe
 rw [hxe] at hek
 have hb : 0 ≤ e.p ∧ e.p < 16 ∧ 1 ≤ e.t ∧ e.t < 16 := by
  rcases hREk with q | q
  ·rw [hu] at q; cases q.1
  ·exact ⟨q.2.1, q.2.2.1, q.2.2.2.1, q.2.2.2.2.1⟩
 have hp := hi e.p
 have ht := hi e.t
 have kp := hko ⟨hb.1, hb.2.1⟩
 have kt := hko ⟨by omega, hb.2.2.2⟩
 rcases hk4 with rfl | rfl | rfl | rfl
 ·have hv : prbP (fun k => decide (17 + k < m.length ∧ entOk (imS m (17 + (k : Nat))) = false)) (xI (imS m) 16) E R 2 k = ((inoAt (imS m) e.t).k == 0) := by
   show ((E.getD k ent0).u && decide (((xI (imS m) 16).getD (E.getD k ent0).t.toNat ino0).k = 0)) = _
   rw [hEg, hu, kt]
   by_cases h0 : (inoAt (imS m) e.t).k = 0 <;> simp [h0]
  rw [hv]
  refine FnC.intro ti_ok Tryz.func87 rfl Tryz.ntmps87 Tryz.call87 rfl (Nat.le_of_ble_eq_true rfl) rfl ?_
  (repeat' ((conv=>whnf);first|with_reducible refine gA ?_|((with_reducible refine callE_id ?_); first | (refine CallE.con ⟨_, hek, ?_⟩) | (refine CallE.con ⟨_, ht, ?_⟩))|(with_reducible first|refine gB ?_|refine gZ (fun x hx hu=>?_)|refine gY (fun x hx=>?_)|refine gE ?_|refine Both.mk ?_ ?_|refine gS (fun h=>?_) (fun h=>?_)|refine Spl.nt ?_|refine Spl.mk (fun h=>?_) (fun h=>?_))))
  rfl
 ·obtain ⟨r, hr⟩ := lt_get (l := R) (k := e.p.toNat) (by omega)
  have hrd : R.getD e.p.toNat false = r := by rw [List.getD_eq_getElem?_getD, hr]; rfl
  have hv : prbP (fun k => decide (17 + k < m.length ∧ entOk (imS m (17 + (k : Nat))) = false)) (xI (imS m) 16) E R 3 k = (!(r && ((inoAt (imS m) e.p).k == 2))) := by
   show ((E.getD k ent0).u && !decide (sndP (xI (imS m) 16) R (E.getD k ent0))) = _
   rw [hEg, hu, Bool.true_and]
   congr 1
   rw [Bool.eq_iff_iff, decide_eq_true_eq]
   unfold sndP
   rw [hu, hrd, kp]; simp
  rw [hv]
  cases r
  all_goals refine FnC.intro ti_ok Tryz.func87 rfl Tryz.ntmps87 Tryz.call87 rfl (Nat.le_of_ble_eq_true rfl) rfl ?_
  all_goals (repeat' ((conv=>whnf);first|with_reducible refine gA ?_|((with_reducible refine callE_id ?_); first | (refine CallE.con ⟨_, hek, ?_⟩) | (refine CallE.con ⟨_, hp, ?_⟩)) | ((with_reducible refine atA_id ?_); refine AtA.eq (ldRp hr rfl rfl) ?_)|(with_reducible first|refine gB ?_|refine gZ (fun x hx hu=>?_)|refine gY (fun x hx=>?_)|refine gE ?_|refine Both.mk ?_ ?_|refine gS (fun h=>?_) (fun h=>?_)|refine Spl.nt ?_|refine Spl.mk (fun h=>?_) (fun h=>?_))))
  ·rfl
  ·refine bl_eq ?_
   show (!((inoAt (imS m) e.p).k == 2)) = _
   rw [Bool.true_and]
 ·have hv : prbP (fun k => decide (17 + k < m.length ∧ entOk (imS m (17 + (k : Nat))) = false)) (xI (imS m) 16) E R 4 k = (true && (E.take k).any fun o => o.u && (decide (o.p = e.p) && decide (o.n = e.n))) := by
   show ((E.getD k ent0).u && _) = _
   rw [hEg, hu]
  rw [hv]
  refine FnC.intro ti_ok Tryz.func87 rfl Tryz.ntmps87 Tryz.call87 rfl (Nat.le_of_ble_eq_true rfl) rfl ?_
  (repeat' ((conv=>whnf);first|with_reducible refine gA ?_|((with_reducible refine callE_id ?_); (refine CallE.con ⟨_, hek, ?_⟩))|(with_reducible first|refine gB ?_|refine gZ (fun x hx hu=>?_)|refine gY (fun x hx=>?_)|refine gE ?_|refine Both.mk ?_ ?_|refine gS (fun h=>?_) (fun h=>?_)|refine Spl.nt ?_|refine Spl.mk (fun h=>?_) (fun h=>?_))))
  conv => whnf
  refine loop_rule ti_ok (fun j : Nat => j ≤ k ∧ ((E.take k).take j).any (fun o => o.u && (decide (o.p = e.p) && decide (o.n = e.n))) = false) (e13 m e 4 k) (fun j => k - j) 0 ⟨Nat.zero_le _, rfl⟩ ⟨And.intro rfl (And.intro rfl (And.intro rfl (And.intro rfl (And.intro rfl trivial)))), And.intro rfl trivial, rfl⟩ ?_
  intro j ⟨hj, ha⟩
  by_cases hjk : j < k
  ·have hy : (E.take k)[j]? = some (entAt (imS m) (j : Nat)) := by rw [List.getElem?_take, if_pos hjk]; exact hEa (by omega)
   have hej := he (j : Nat)
   generalize entAt (imS m) (j : Nat) = y at hy hej
   have hye : encE y = [.bl y.u, .it .i64 y.p, .st y.n, .it .i64 y.t] := rfl
   by_cases hyu : y.u = false
   all_goals (have hyu' := hyu; first | rw [hyu] at hye | (rw [show y.u = true by simpa using hyu] at hye))
   all_goals rw [hye] at hej
   all_goals (repeat' ((conv=>whnf);first|with_reducible refine gA ?_|((with_reducible refine callE_id ?_); (refine CallE.con ⟨_, hej, ?_⟩))|(with_reducible first|refine gB ?_|refine gZ (fun x hx hu=>?_)|refine gY (fun x hx=>?_)|refine gE ?_|refine Both.mk ?_ ?_|refine gS (fun h=>?_) (fun h=>?_)|refine Spl.nt ?_|refine Spl.mk (fun h=>?_) (fun h=>?_))))
   all_goals first
    | (refine again (j + 1) ⟨hjk, any_take hy ha (by first | (simp [hyu]; done) | (simp [(by assumption : ¬ y.p = e.p)]; done) | (simp [(by assumption : ¬ y.n = e.n)]; done))⟩ (by first | omega | (dsimp only; omega)) (And.intro rfl (And.intro rfl (And.intro rfl (And.intro rfl (And.intro (it_eq (by omega)) trivial))))) (And.intro rfl trivial) rfl; done)
    | (refine bl_eq (any_r (any_yes hy hjk (by simp [(by simpa using hyu : y.u = true), (by assumption : y.p = e.p), (by assumption : y.n = e.n)]))); done)
  ·have hjk2 : j = k := by omega
   rw [hjk2, List.take_of_length_le (by rw [List.length_take]; omega)] at ha
   (repeat' ((conv=>whnf);first|with_reducible refine gA ?_|(with_reducible first|refine gB ?_|refine gZ (fun x hx hu=>?_)|refine gY (fun x hx=>?_)|refine gE ?_|refine Both.mk ?_ ?_|refine gS (fun h=>?_) (fun h=>?_)|refine Spl.nt ?_|refine Spl.mk (fun h=>?_) (fun h=>?_))))
   exact bl_eq (any_f ha)
 ·have hv : prbP (fun k => decide (17 + k < m.length ∧ entOk (imS m (17 + (k : Nat))) = false)) (xI (imS m) 16) E R 5 k = (true && (E.take k).any fun o => o.u && decide (o.t = e.t)) := by
   show ((E.getD k ent0).u && _) = _
   rw [hEg, hu]
  rw [hv]
  refine FnC.intro ti_ok Tryz.func87 rfl Tryz.ntmps87 Tryz.call87 rfl (Nat.le_of_ble_eq_true rfl) rfl ?_
  (repeat' ((conv=>whnf);first|with_reducible refine gA ?_|((with_reducible refine callE_id ?_); (refine CallE.con ⟨_, hek, ?_⟩))|(with_reducible first|refine gB ?_|refine gZ (fun x hx hu=>?_)|refine gY (fun x hx=>?_)|refine gE ?_|refine Both.mk ?_ ?_|refine gS (fun h=>?_) (fun h=>?_)|refine Spl.nt ?_|refine Spl.mk (fun h=>?_) (fun h=>?_))))
  conv => whnf
  refine loop_rule ti_ok (fun j : Nat => j ≤ k ∧ ((E.take k).take j).any (fun o => o.u && decide (o.t = e.t)) = false) (e13 m e 5 k) (fun j => k - j) 0 ⟨Nat.zero_le _, rfl⟩ ⟨And.intro rfl (And.intro rfl (And.intro rfl (And.intro rfl (And.intro rfl trivial)))), And.intro rfl trivial, rfl⟩ ?_
  intro j ⟨hj, ha⟩
  by_cases hjk : j < k
  ·have hy : (E.take k)[j]? = some (entAt (imS m) (j : Nat)) := by rw [List.getElem?_take, if_pos hjk]; exact hEa (by omega)
   have hej := he (j : Nat)
   generalize entAt (imS m) (j : Nat) = y at hy hej
   have hye : encE y = [.bl y.u, .it .i64 y.p, .st y.n, .it .i64 y.t] := rfl
   by_cases hyu : y.u = false
   all_goals (have hyu' := hyu; first | rw [hyu] at hye | (rw [show y.u = true by simpa using hyu] at hye))
   all_goals rw [hye] at hej
   all_goals (repeat' ((conv=>whnf);first|with_reducible refine gA ?_|((with_reducible refine callE_id ?_); (refine CallE.con ⟨_, hej, ?_⟩))|(with_reducible first|refine gB ?_|refine gZ (fun x hx hu=>?_)|refine gY (fun x hx=>?_)|refine gE ?_|refine Both.mk ?_ ?_|refine gS (fun h=>?_) (fun h=>?_)|refine Spl.nt ?_|refine Spl.mk (fun h=>?_) (fun h=>?_))))
   all_goals first
    | (refine again (j + 1) ⟨hjk, any_take hy ha (by first | (simp [hyu]; done) | (simp [(by assumption : ¬ y.t = e.t)]; done))⟩ (by first | omega | (dsimp only; omega)) (And.intro rfl (And.intro rfl (And.intro rfl (And.intro rfl (And.intro (it_eq (by omega)) trivial))))) (And.intro rfl trivial) rfl; done)
    | (refine bl_eq (any_r (any_yes hy hjk (by simp [(by simpa using hyu : y.u = true), (by assumption : y.t = e.t)]))); done)
  ·have hjk2 : j = k := by omega
   rw [hjk2, List.take_of_length_le (by rw [List.length_take]; omega)] at ha
   (repeat' ((conv=>whnf);first|with_reducible refine gA ?_|(with_reducible first|refine gB ?_|refine gZ (fun x hx hu=>?_)|refine gY (fun x hx=>?_)|refine gE ?_|refine Both.mk ?_ ?_|refine gS (fun h=>?_) (fun h=>?_)|refine Spl.nt ?_|refine Spl.mk (fun h=>?_) (fun h=>?_))))
   exact bl_eq (any_f ha)
end Go.Proofs.YthknbpijaoljgaaGreatDoor
namespace Go.Proofs.YthknbpijaoljgaaGreatDoor
open Go.Sy
def encP (x : Int × Int) : List D := [.it .i64 x.1, .it .i64 x.2]
def rod (m : List (List UInt8)) (k : Nat) : Bool := decide (17 + k < m.length ∧ entOk (imS m (17 + (k : Nat))) = false)
def probs (od : Nat → Bool) (I : List Ino) (E : List Ent) (own : Nat → Nat) : List (Int × Int) := prbK (prbP od I E (reachR (kdI I) E)) 120 ++ prbB own 24
def pbS (m : List (List UInt8)) (R : List Bool) (sl : List (Nat × AV)) (L : List (Int × Int)) : S := ⟨(0, .d (encM m)) :: (3, .ts 2 (L.map encP) 1) :: (4, .ptr 2 0) :: sl, [(1, .tail 88 true), (2, .cells 16 ((R.map D.bl).map .d))], 3⟩
def s1 (a : Nat) (i : Nat) : List (Nat × AV) := [(a, .d (.it .i64 ((i + 1 : Nat) : Nat)))]
def s2 (i k : Nat) : List (Nat × AV) := [(5, .d (.it .i64 ((i + 1 : Nat) : Nat))), (6, .d (.it .i64 (k : Nat)))]
theorem pbS1_ok (m : List (List UInt8)) (R : List Bool) (a i : Nat) (L : List (Int × Int)) : (pbS m R (s1 a i) L).ok = true := by
 unfold pbS s1
 simp only [S.ok, List.all_cons, List.all_nil, Ob.lt, all_d]; rfl
theorem pbS2_ok (m : List (List UInt8)) (R : List Bool) (i k : Nat) (L : List (Int × Int)) : (pbS m R (s2 i k) L).ok = true := by
 unfold pbS s2
 simp only [S.ok, List.all_cons, List.all_nil, Ob.lt, all_d]; rfl
theorem map_encP (L : List (Int × Int)) (x : Int × Int) : (L ++ [x]).map encP = L.map encP ++ [encP x] := by rw [List.map_append]; rfl
set_option maxHeartbeats 8000000 in
theorem refChk_ok (m : List (List UInt8)) (hm : ImOK m) : FnC Tryz.prog 40 [.d (encM m)] (.d (.fs 2 ((probs (rod m) (xI (imS m) 16) (xE (imS m) 24) (fun b => refO m (b : Nat) 16)).map encP))) := by
 have hr := refRch_ok m hm
 have hl : (reachR (kdI (xI (imS m) 16)) (xE (imS m) 24)).length = 16 := by unfold reachR; rw [iterR_len]; rfl
 have hent := fun R (hR : R.length = 16) kind k hk h1 => refEnt13_ok m hm R hR kind k hk h1
 have hown := fun b hb => refOwn_ok m hm b hb
 have hent := hent _ hl
 unfold probs
 have hrod : (fun k => decide (17 + k < m.length ∧ entOk (imS m (17 + (k : Nat))) = false)) = rod m := rfl
 rw [hrod] at hent
 generalize hRR : reachR (kdI (xI (imS m) 16)) (xE (imS m) 24) = R at *
 generalize prbP (rod m) (xI (imS m) 16) (xE (imS m) 24) R = P at *
 have hPl := fun q => prbK_len P q
 have hBl := fun q => prbB_len (fun b => refO m (b : Nat) 16) q
 have hMl : ∀ L : List (Int × Int), (L.map encP).length = L.length := fun L => List.length_map ..
 refine FnC.intro ti_ok Tryz.func40 rfl Tryz.ntmps40 Tryz.call40 rfl (Nat.le_of_ble_eq_true rfl) rfl ?_
 (repeat' ((conv=>whnf);first|with_reducible refine gA ?_|((with_reducible refine callE_id ?_); (refine CallE.con ⟨_, hr, ?_⟩))|(with_reducible first|refine gB ?_|refine gZ (fun x hx hu=>?_)|refine gY (fun x hx=>?_)|refine gE ?_|refine Both.mk ?_ ?_|refine gS (fun h=>?_) (fun h=>?_)|refine Spl.nt ?_|refine Spl.mk (fun h=>?_) (fun h=>?_))))
 conv => whnf
 refine loop_rule ti_ok (fun i : Nat => i ≤ 5) (fun i => pbS m R (s1 5 i) (prbK P (24 * i))) (fun i => 5 - i) 0 (Nat.zero_le _) ⟨And.intro rfl (And.intro rfl (And.intro rfl (And.intro rfl trivial))), And.intro rfl (And.intro (cells_eq rfl (by rw [show List.take 0 _ = ([] : List AV) from rfl, List.nil_append]; exact List.append_nil _)) trivial), pbS1_ok ..⟩ ?_
 intro i hi
 by_cases hi5 : i < 5
 ·(repeat' ((conv=>whnf);first|with_reducible refine gA ?_|(with_reducible first|refine gB ?_|refine gZ (fun x hx hu=>?_)|refine gY (fun x hx=>?_)|refine gE ?_|refine Both.mk ?_ ?_|refine gS (fun h=>?_) (fun h=>?_)|refine Spl.nt ?_|refine Spl.mk (fun h=>?_) (fun h=>?_))))
  conv => whnf
  refine loop_rule ti_ok (fun k : Nat => k ≤ 24) (fun k => pbS m R (s2 i k) (prbK P (24 * i + k))) (fun k => 24 - k) 0 (Nat.zero_le _) ⟨And.intro rfl (And.intro rfl (And.intro rfl (And.intro rfl (And.intro rfl trivial)))), And.intro rfl (And.intro rfl trivial), pbS2_ok ..⟩ ?_
  intro k hk
  by_cases hk24 : k < 24
  ·have hek := hent (i + 1) k hk24 (by omega)
   have h1 := hPl (24 * i + k)
   have h2 := hMl (prbK P (24 * i + k))
   cases hP : P (i + 1) k
   ·have hno := prbK_no (P := P) hk24 hP
    rw [hP] at hek
    (repeat' ((conv=>whnf);first|with_reducible refine gA ?_|((with_reducible refine callE_id ?_); (refine CallE.con ⟨_, hek, ?_⟩)) | ((with_reducible refine atA_id ?_); refine AtA.eq (ldRs hl rfl rfl) ?_)|(with_reducible first|refine gB ?_|refine gZ (fun x hx hu=>?_)|refine gY (fun x hx=>?_)|refine gE ?_|refine Both.mk ?_ ?_|refine gS (fun h=>?_) (fun h=>?_)|refine Spl.nt ?_|refine Spl.mk (fun h=>?_) (fun h=>?_))))
    refine again (k + 1) hk24 (by first | omega | (dsimp only; omega)) (And.intro rfl (And.intro (ts_eq ?_) (And.intro rfl (And.intro rfl (And.intro (it_eq (by omega)) trivial))))) (And.intro rfl (And.intro rfl trivial)) (pbS2_ok ..)
    rw [hno]
   ·have hyes := prbK_yes (P := P) hk24 hP
    rw [hP] at hek
    (repeat' ((conv=>whnf);first|with_reducible refine gA ?_|((with_reducible refine callE_id ?_); (refine CallE.con ⟨_, hek, ?_⟩)) | ((with_reducible refine atA_id ?_); refine AtA.eq (ldRs hl rfl rfl) ?_)|(with_reducible first|refine gB ?_|refine gZ (fun x hx hu=>?_)|refine gY (fun x hx=>?_)|refine gE ?_|refine Both.mk ?_ ?_|refine gS (fun h=>?_) (fun h=>?_)|refine Spl.nt ?_|refine Spl.mk (fun h=>?_) (fun h=>?_))))
    refine again (k + 1) hk24 (by first | omega | (dsimp only; omega)) (And.intro rfl (And.intro (ts_eq ?_) (And.intro rfl (And.intro rfl (And.intro (it_eq (by omega)) trivial))))) (And.intro rfl (And.intro (cells_eq rfl (down1_d ..)) trivial)) (pbS2_ok ..)
    rw [hyes, map_encP]; rfl
  ·have hke : k = 24 := by omega
   (repeat' ((conv=>whnf);first|with_reducible refine gA ?_|(with_reducible first|refine gB ?_|refine gZ (fun x hx hu=>?_)|refine gY (fun x hx=>?_)|refine gE ?_|refine Both.mk ?_ ?_|refine gS (fun h=>?_) (fun h=>?_)|refine Spl.nt ?_|refine Spl.mk (fun h=>?_) (fun h=>?_))))
   refine again (i + 1) hi5 (by first | omega | (dsimp only; omega)) (And.intro rfl (And.intro (ts_eq ?_) (And.intro rfl (And.intro (it_eq (by omega)) trivial)))) (And.intro rfl (And.intro rfl trivial)) (pbS1_ok ..)
   rw [hke]; rfl
 ·have hie : i = 5 := by omega
  rw [hie]
  (repeat' ((conv=>whnf);first|with_reducible refine gA ?_|(with_reducible first|refine gB ?_|refine gZ (fun x hx hu=>?_)|refine gY (fun x hx=>?_)|refine gE ?_|refine Both.mk ?_ ?_|refine gS (fun h=>?_) (fun h=>?_)|refine Spl.nt ?_|refine Spl.mk (fun h=>?_) (fun h=>?_))))
  conv => whnf
  refine loop_rule ti_ok (fun q : Nat => q ≤ 24) (fun q => pbS m R (s1 7 q) (prbK P 120 ++ prbB (fun b => refO m (b : Nat) 16) q)) (fun q => 24 - q) 0 (Nat.zero_le _) ⟨And.intro rfl (And.intro (ts_eq (by rw [show prbB _ 0 = [] from rfl, List.append_nil])) (And.intro rfl (And.intro rfl trivial))), And.intro rfl (And.intro rfl trivial), pbS1_ok ..⟩ ?_
  intro q hq
  by_cases hq24 : q < 24
  ·have how := hown ((q + 1 : Nat) : Int) (by omega)
   have h1 := hPl 120
   have h3 := hBl q
   have h2 := hMl (prbK P 120 ++ prbB (fun b => refO m (b : Nat) 16) q)
   rw [List.length_append] at h2
   have hyes := prbB_yes (own := fun b => refO m (b : Nat) 16) (k := q)
   have hno := prbB_no (own := fun b => refO m (b : Nat) 16) (k := q)
   by_cases ho : 1 < refO m ((q + 1 : Nat) : Int) 16
   ·(repeat' ((conv=>whnf);first|with_reducible refine gA ?_|((with_reducible refine callE_id ?_); (refine CallE.con ⟨_, how, ?_⟩))|(with_reducible first|refine gB ?_|refine gZ (fun x hx hu=>?_)|refine gY (fun x hx=>?_)|refine gE ?_|refine Both.mk ?_ ?_|refine gS (fun h=>?_) (fun h=>?_)|refine Spl.nt ?_|refine Spl.mk (fun h=>?_) (fun h=>?_))))
    refine again (q + 1) hq24 (by first | omega | (dsimp only; omega)) (And.intro rfl (And.intro (ts_eq ?_) (And.intro rfl (And.intro (it_eq (by omega)) trivial)))) (And.intro rfl (And.intro (cells_eq rfl (down1_d ..)) trivial)) (pbS1_ok ..)
    rw [hyes ho]
    refine Eq.trans ?_ (congrArg (List.map encP) (List.append_assoc _ _ _))
    refine Eq.trans ?_ (map_encP _ _).symm
    rfl
   ·(repeat' ((conv=>whnf);first|with_reducible refine gA ?_|((with_reducible refine callE_id ?_); (refine CallE.con ⟨_, how, ?_⟩))|(with_reducible first|refine gB ?_|refine gZ (fun x hx hu=>?_)|refine gY (fun x hx=>?_)|refine gE ?_|refine Both.mk ?_ ?_|refine gS (fun h=>?_) (fun h=>?_)|refine Spl.nt ?_|refine Spl.mk (fun h=>?_) (fun h=>?_))))
    refine again (q + 1) hq24 (by first | omega | (dsimp only; omega)) (And.intro rfl (And.intro (ts_eq ?_) (And.intro rfl (And.intro (it_eq (by omega)) trivial)))) (And.intro rfl (And.intro rfl trivial)) (pbS1_ok ..)
    rw [hno ho]
  ·have hqe : q = 24 := by omega
   rw [hqe]
   (repeat' ((conv=>whnf);first|with_reducible refine gA ?_|(with_reducible first|refine gB ?_|refine gZ (fun x hx hu=>?_)|refine gY (fun x hx=>?_)|refine gE ?_|refine Both.mk ?_ ?_|refine gS (fun h=>?_) (fun h=>?_)|refine Spl.nt ?_|refine Spl.mk (fun h=>?_) (fun h=>?_))))
   rfl
end Go.Proofs.YthknbpijaoljgaaGreatDoor
namespace Go.Proofs.YthknbpijaoljgaaGreatDoor
open Go.Sy
def dod (d : Option Dk) (k : Nat) : Bool := decide (oddP d (k : Nat))
def ckA (F : Func) (d : Option Dk) (I : List Ino) (E : List Ent) (R : List Bool) (sl : List (Nat × AV)) (L : List (Int × Int)) : S := ⟨(0, .yld 9) :: (1, .ptr 2 0) :: sl, [(9, rgL 8 F), (8, .frame 14 [(2, .ptr 6 0)]), (6, .cells 1 [.ts 2 (L.map encP) 10]), (10, .tail 84 true), (5, .frame 6 []), (3, .frame 8 []), (2, .cells 1 [.d (.fp 209 (encX d I E R))])], 11⟩
def c1 (a i : Nat) : List (Nat × AV) := [(a, .d (.it .i64 ((i + 1 : Nat) : Nat)))]
def c2 (i k : Nat) : List (Nat × AV) := [(3, .d (.it .i64 ((i + 1 : Nat) : Nat))), (10, .d (.it .i64 (k : Nat)))]
theorem wk_trC {N : Nat} {σ τ τ' : S} (e : τ' = τ) (h : Wk N σ τ') : Wk N σ τ := by rw [← e]; exact h
theorem cells_ts2 {a b : List (List D)} (h : a = b) : some (Ob.cells 1 [.ts 2 a 10]) = some (Ob.cells 1 [.ts 2 b 10]) := by rw [h]
set_option maxHeartbeats 8000000 in
theorem check_ok (d : Option Dk) (hd : DkOK d) : FnC Tryz.prog 37 [.d (encD d)] (.d (.fs 2 ((probs (dod d) (xI (rdS d) 16) (xE (rdS d) 24) (fun b => ownK (fun i => (xI (rdS d) 16).getD i ino0) (fun i => decide (takP (rdS d) (i : Nat))) (b : Nat) 16)).map encP))) := by
 have hr := xread_ok d hd
 have hl : (reachR (kdI (xI (rdS d) 16)) (xE (rdS d) 24)).length = 16 := by unfold reachR; rw [iterR_len]; rfl
 have hx := xok_L (rdS d) 16 24 hl
 have hent := fun kind k hk h1 => hasE_ok hd hx kind k hk h1
 have hown := fun b => own_ok hd hx b
 unfold probs
 have hdod : (fun k => decide (oddP d (k : Nat))) = dod d := rfl
 rw [hdod] at hent
 generalize hRR : reachR (kdI (xI (rdS d) 16)) (xE (rdS d) 24) = R at *
 generalize hII : xI (rdS d) 16 = I at *
 generalize hEE : xE (rdS d) 24 = E at *
 generalize prbP (dod d) I E R = P at *
 have hPl := fun q => prbK_len P q
 have hBl := fun q => prbB_len (fun b => ownK (fun i => I.getD i ino0) (fun i => decide (takP (rdS d) (i : Nat))) (b : Nat) 16) q
 have hMl : ∀ L : List (Int × Int), (L.map encP).length = L.length := fun L => List.length_map ..
 refine FnC.intro ti_ok Tryz.func37 rfl Tryz.ntmps37 Tryz.call37 rfl (Nat.le_of_ble_eq_true rfl) rfl ?_
 (repeat' ((conv=>whnf);first|with_reducible refine gA ?_|((with_reducible refine callE_id ?_); first | (refine CallE.con ⟨_, hr, ?_⟩) | refine CallE.inl ?_) | ((with_reducible refine callI_id ?_); first | with_reducible refine CallI.inl ti_ok i81 rfl ?_ | with_reducible refine CallI.inl ti_ok i79 rfl ?_ | refine CallI.inlN 2 ti_ok i116 rfl rfl rfl rfl ?_)|(with_reducible first|refine gB ?_|refine gZ (fun x hx hu=>?_)|refine gY (fun x hx=>?_)|refine gE ?_|refine Both.mk ?_ ?_|refine gS (fun h=>?_) (fun h=>?_)|refine Spl.nt ?_|refine Spl.mk (fun h=>?_) (fun h=>?_))))
 refine RangeS.intro ti_ok i118 rfl rfl ?_
 (repeat' ((conv=>whnf);first|with_reducible refine gA ?_|(with_reducible first|refine gB ?_|refine gZ (fun x hx hu=>?_)|refine gY (fun x hx=>?_)|refine gE ?_|refine Both.mk ?_ ?_|refine gS (fun h=>?_) (fun h=>?_)|refine Spl.nt ?_|refine Spl.mk (fun h=>?_) (fun h=>?_))))
 conv => whnf
 refine LoopS.wk (Wk.nlTs 6 0 1 2 84 (by with_unfolding_all exact rfl) (by with_unfolding_all exact rfl)) ?_
 refine LoopS.wk (τ := ckA Tryz.f116 d I E R (c1 3 0) []) (Wk.enF (And.intro rfl (And.intro rfl (And.intro rfl trivial))) (by (repeat (first | exact trivial | refine And.intro (obw_eq rfl (by with_unfolding_all exact rfl)) ?_ | refine And.intro (obw_fr (by with_unfolding_all exact rfl) (by (repeat (first | exact trivial | refine And.intro (by with_unfolding_all exact rfl) ?_)))) ?_))) rfl) ?_
 refine loop_ruleW ti_ok (fun i : Nat => i ≤ 5) (fun i => ckA Tryz.f116 d I E R (c1 3 i) (prbK P (24 * i))) (fun i => 5 - i) 0 (Nat.zero_le _) (Wk.en ⟨And.intro rfl (And.intro rfl (And.intro rfl trivial)), (by (repeat (first | exact trivial | refine And.intro rfl ?_))), rfl⟩) ?_
 intro i hi
 by_cases hi5 : i < 5
 ·(repeat' ((conv=>whnf);first|with_reducible refine gA ?_|(with_reducible first|refine gB ?_|refine gZ (fun x hx hu=>?_)|refine gY (fun x hx=>?_)|refine gE ?_|refine Both.mk ?_ ?_|refine gS (fun h=>?_) (fun h=>?_)|refine Spl.nt ?_|refine Spl.mk (fun h=>?_) (fun h=>?_))))
  conv => whnf
  refine loop_ruleW ti_ok (fun k : Nat => k ≤ 24) (fun k => ckA Tryz.f116 d I E R (c2 i k) (prbK P (24 * i + k))) (fun k => 24 - k) 0 (Nat.zero_le _) (Wk.enF (And.intro rfl (And.intro rfl (And.intro rfl (And.intro rfl trivial)))) (by (repeat (first | exact trivial | refine And.intro (obw_eq rfl (by with_unfolding_all exact rfl)) ?_ | refine And.intro (obw_fr (by with_unfolding_all exact rfl) (by (repeat (first | exact trivial | refine And.intro (by with_unfolding_all exact rfl) ?_)))) ?_))) rfl) ?_
  intro k hk
  by_cases hk24 : k < 24
  ·have hek := hent (i + 1) k hk24 (by omega)
   have h1 := hPl (24 * i + k)
   have h2 := hMl (prbK P (24 * i + k))
   by_cases hP : P (i + 1) k = false
   ·have hno := prbK_no (P := P) hk24 hP
    rw [hP] at hek
    (repeat' ((conv=>whnf);first|with_reducible refine gA ?_|((with_reducible refine callE_id ?_); (refine CallE.con ⟨_, hek, ?_⟩))|(with_reducible first|refine gB ?_|refine gZ (fun x hx hu=>?_)|refine gY (fun x hx=>?_)|refine gE ?_|refine Both.mk ?_ ?_|refine gS (fun h=>?_) (fun h=>?_)|refine Spl.nt ?_|refine Spl.mk (fun h=>?_) (fun h=>?_))))
    refine ⟨k + 1, hk24, by first | omega | (dsimp only; omega), wk_trC (congrArg (ckA Tryz.f116 d I E R (c2 i (k + 1))) hno.symm) (Wk.enF (And.intro rfl (And.intro rfl (And.intro rfl (And.intro (it_eq (by omega)) trivial)))) (by (repeat (first | exact trivial | refine And.intro (obw_eq rfl (by with_unfolding_all exact rfl)) ?_ | refine And.intro (obw_fr (by with_unfolding_all exact rfl) (by (repeat (first | exact trivial | refine And.intro (by with_unfolding_all exact rfl) ?_)))) ?_))) rfl)⟩
   ·have hP : P (i + 1) k = true := by simpa using hP
    have hyes := prbK_yes (P := P) hk24 hP
    rw [hP] at hek
    (repeat' ((conv=>whnf);first|with_reducible refine gA ?_|((with_reducible refine callE_id ?_); (refine CallE.con ⟨_, hek, ?_⟩)) | with_reducible refine YieldI.intro ti_ok (by with_unfolding_all exact rfl) (by with_unfolding_all exact rfl) (by with_unfolding_all exact rfl) ?_|(with_reducible first|refine gB ?_|refine gZ (fun x hx hu=>?_)|refine gY (fun x hx=>?_)|refine gE ?_|refine Both.mk ?_ ?_|refine gS (fun h=>?_) (fun h=>?_)|refine Spl.nt ?_|refine Spl.mk (fun h=>?_) (fun h=>?_))))
    refine ⟨k + 1, hk24, by first | omega | (dsimp only; omega), wk_trC (congrArg (ckA Tryz.f116 d I E R (c2 i (k + 1))) hyes.symm) (Wk.enF (And.intro rfl (And.intro rfl (And.intro rfl (And.intro (it_eq (by omega)) trivial)))) (And.intro (obw_eq rfl rfl) (And.intro (obw_fr rfl (And.intro rfl trivial)) (And.intro (obw_eq rfl (cells_ts2 ?_)) (And.intro (obw_eq rfl rfl) (And.intro (obw_fr rfl trivial) (And.intro (obw_fr rfl trivial) (And.intro (obw_eq rfl rfl) trivial))))))) rfl)⟩
    rw [map_encP]; rfl
  ·have hke : k = 24 := by omega
   (repeat' ((conv=>whnf);first|with_reducible refine gA ?_|(with_reducible first|refine gB ?_|refine gZ (fun x hx hu=>?_)|refine gY (fun x hx=>?_)|refine gE ?_|refine Both.mk ?_ ?_|refine gS (fun h=>?_) (fun h=>?_)|refine Spl.nt ?_|refine Spl.mk (fun h=>?_) (fun h=>?_))))
   refine ⟨i + 1, hi5, by first | omega | (dsimp only; omega), wk_trC (congrArg (ckA Tryz.f116 d I E R (c1 3 (i + 1))) (congrArg (prbK P) (show 24 * i + k = 24 * (i + 1) by omega))) (Wk.enF (And.intro rfl (And.intro rfl (And.intro (it_eq (by omega)) trivial))) (by (repeat (first | exact trivial | refine And.intro (obw_eq rfl (by with_unfolding_all exact rfl)) ?_ | refine And.intro (obw_fr (by with_unfolding_all exact rfl) (by (repeat (first | exact trivial | refine And.intro (by with_unfolding_all exact rfl) ?_)))) ?_))) rfl)⟩
 ·have hie : i = 5 := by omega
  rw [hie]
  (repeat' ((conv=>whnf);first|with_reducible refine gA ?_|(with_reducible first|refine gB ?_|refine gZ (fun x hx hu=>?_)|refine gY (fun x hx=>?_)|refine gE ?_|refine Both.mk ?_ ?_|refine gS (fun h=>?_) (fun h=>?_)|refine Spl.nt ?_|refine Spl.mk (fun h=>?_) (fun h=>?_))))
  conv => whnf
  refine loop_ruleW ti_ok (fun q : Nat => q ≤ 24) (fun q => ckA Tryz.f116 d I E R (c1 5 q) (prbK P 120 ++ prbB (fun b => ownK (fun i => I.getD i ino0) (fun i => decide (takP (rdS d) (i : Nat))) (b : Nat) 16) q)) (fun q => 24 - q) 0 (Nat.zero_le _) (wk_trC (congrArg (ckA Tryz.f116 d I E R (c1 5 0)) (show prbK P 120 = prbK P 120 ++ prbB (fun b => ownK (fun i => I.getD i ino0) (fun i => decide (takP (rdS d) (i : Nat))) (b : Nat) 16) 0 by rw [show prbB (fun b => ownK (fun i => I.getD i ino0) (fun i => decide (takP (rdS d) (i : Nat))) (b : Nat) 16) 0 = [] from rfl, List.append_nil])) (Wk.enF (And.intro rfl (And.intro rfl (And.intro rfl trivial))) (by (repeat (first | exact trivial | refine And.intro (obw_eq rfl (by with_unfolding_all exact rfl)) ?_ | refine And.intro (obw_fr (by with_unfolding_all exact rfl) (by (repeat (first | exact trivial | refine And.intro (by with_unfolding_all exact rfl) ?_)))) ?_))) rfl)) ?_
  intro q hq
  by_cases hq24 : q < 24
  ·have how := hown ((q + 1 : Nat) : Int)
   have h1 := hPl 120
   have h3 := hBl q
   have h2 := hMl (prbK P 120 ++ prbB (fun b => ownK (fun i => I.getD i ino0) (fun i => decide (takP (rdS d) (i : Nat))) (b : Nat) 16) q)
   rw [List.length_append] at h2
   have hle := ownK_le (fun i => I.getD i ino0) (fun i => decide (takP (rdS d) (i : Nat))) ((q + 1 : Nat) : Int) 16
   have hyes := prbB_yes (own := (fun b => ownK (fun i => I.getD i ino0) (fun i => decide (takP (rdS d) (i : Nat))) (b : Nat) 16)) (k := q)
   have hno := prbB_no (own := (fun b => ownK (fun i => I.getD i ino0) (fun i => decide (takP (rdS d) (i : Nat))) (b : Nat) 16)) (k := q)
   by_cases ho : 1 < ownK (fun i => I.getD i ino0) (fun i => decide (takP (rdS d) (i : Nat))) ((q + 1 : Nat) : Int) 16
   ·(repeat' ((conv=>whnf);first|with_reducible refine gA ?_|((with_reducible refine callE_id ?_); (refine CallE.con ⟨_, how, ?_⟩)) | with_reducible refine YieldI.intro ti_ok (by with_unfolding_all exact rfl) (by with_unfolding_all exact rfl) (by with_unfolding_all exact rfl) ?_|(with_reducible first|refine gB ?_|refine gZ (fun x hx hu=>?_)|refine gY (fun x hx=>?_)|refine gE ?_|refine Both.mk ?_ ?_|refine gS (fun h=>?_) (fun h=>?_)|refine Spl.nt ?_|refine Spl.mk (fun h=>?_) (fun h=>?_))))
    refine ⟨q + 1, hq24, by first | omega | (dsimp only; omega), wk_trC (congrArg (ckA Tryz.f116 d I E R (c1 5 (q + 1))) ((List.append_assoc _ _ _).trans (congrArg (prbK P 120 ++ ·) (hyes ho).symm))) (Wk.enF (And.intro rfl (And.intro rfl (And.intro (it_eq (by omega)) trivial))) (And.intro (obw_eq rfl rfl) (And.intro (obw_fr rfl (And.intro rfl trivial)) (And.intro (obw_eq rfl (cells_ts2 ?_)) (And.intro (obw_eq rfl rfl) (And.intro (obw_fr rfl trivial) (And.intro (obw_fr rfl trivial) (And.intro (obw_eq rfl rfl) trivial))))))) rfl)⟩
    rw [map_encP]; rfl
   ·(repeat' ((conv=>whnf);first|with_reducible refine gA ?_|((with_reducible refine callE_id ?_); (refine CallE.con ⟨_, how, ?_⟩))|(with_reducible first|refine gB ?_|refine gZ (fun x hx hu=>?_)|refine gY (fun x hx=>?_)|refine gE ?_|refine Both.mk ?_ ?_|refine gS (fun h=>?_) (fun h=>?_)|refine Spl.nt ?_|refine Spl.mk (fun h=>?_) (fun h=>?_))))
    refine ⟨q + 1, hq24, by first | omega | (dsimp only; omega), wk_trC (congrArg (ckA Tryz.f116 d I E R (c1 5 (q + 1))) (congrArg (prbK P 120 ++ ·) (hno ho).symm)) (Wk.enF (And.intro rfl (And.intro rfl (And.intro (it_eq (by omega)) trivial))) (by (repeat (first | exact trivial | refine And.intro (obw_eq rfl (by with_unfolding_all exact rfl)) ?_ | refine And.intro (obw_fr (by with_unfolding_all exact rfl) (by (repeat (first | exact trivial | refine And.intro (by with_unfolding_all exact rfl) ?_)))) ?_))) rfl)⟩
  ·have hqe : q = 24 := by omega
   rw [hqe]
   (repeat' ((conv=>whnf);first|with_reducible refine gA ?_|(with_reducible first|refine gB ?_|refine gZ (fun x hx hu=>?_)|refine gY (fun x hx=>?_)|refine gE ?_|refine Both.mk ?_ ?_|refine gS (fun h=>?_) (fun h=>?_)|refine Spl.nt ?_|refine Spl.mk (fun h=>?_) (fun h=>?_))))
   rfl
end Go.Proofs.YthknbpijaoljgaaGreatDoor
namespace Go.Proofs.YthknbpijaoljgaaGreatDoor
open Go.Sy
def dOwn (d : Option Dk) (b : Nat) : Nat := ownK (fun i => (xI (rdS d) 16).getD i ino0) (fun i => decide (takP (rdS d) (i : Nat))) (b : Nat) 16
end Go.Proofs.YthknbpijaoljgaaGreatDoor
namespace Go.Proofs.YthknbpijaoljgaaGreatDoor
open Go.Sy
def wrD (d : Dk) (w : Wr) : Dk := ⟨d.nx + 1, d.safe, d.wait ++ [{ w with e := d.ep }], d.log ++ [encEv { w with e := d.ep }], d.ep⟩
theorem rdS_wr (d : Dk) (w : Wr) (n : Int) (h : 0 ≤ w.a ∧ w.a < d.safe.length) : rdS (some (wrD d w)) n = if n = w.a then w.s else rdS (some d) n := by
 unfold rdS wrD
 dsimp only
 rw [lastAt_snoc]
 by_cases hn : n = w.a
 ·subst hn
  rw [if_pos h, if_pos rfl]
  simp
 ·rw [if_neg hn]
  have : ¬ w.a = n := fun e => hn e.symm
  simp only [this, if_false]
def entW (f : Int → List UInt8) (k : Nat) : Wr := ⟨17 + (k : Nat), zeroS, 3, (entAt f (k : Nat)).p, 0⟩
def posB (x : Ino) (b : Int) : Option Nat := if x.b0 = b then some 0 else if x.b1 = b then some 1 else if x.b2 = b then some 2 else if x.b3 = b then some 3 else none
def cutI (x : Ino) (i : Nat) : Ino := ⟨x.k, (i : Nat) * 32, if 0 < i then x.b0 else 0, if 1 < i then x.b1 else 0, if 2 < i then x.b2 else 0, if 3 < i then x.b3 else 0⟩
def cutW1 (n : Nat) (x : Ino) : Wr := ⟨1 + (n : Nat), if RI x then inoS x else zeroS, 2, (n : Nat), 0⟩
def w0 : Wr := ⟨0, zeroS, 0, 0, 0⟩
def cutS (o : Option Nat) (t : Bool) (n : Nat) (x : Ino) (r : Wr) : Wr :=
 match o with
 | some i => bif t then cutW1 n (cutI x i) else r
 | none => r
def cutK (f : Int → List UInt8) (b : Int) : Nat → Wr
 | 0 => w0
 | k + 1 => cutS (posB (inoAt f (k : Nat)) b) (decide (takP f (k : Nat))) k (inoAt f (k : Nat)) (cutK f b k)
theorem cutK_succ (f : Int → List UInt8) (b : Int) (k : Nat) : cutK f b (k + 1) = cutS (posB (inoAt f (k : Nat)) b) (decide (takP f (k : Nat))) k (inoAt f (k : Nat)) (cutK f b k) := rfl
def probsD (d : Option Dk) : List (Int × Int) := probs (dod d) (xI (rdS d) 16) (xE (rdS d) 24) (dOwn d)
def nextW (d : Option Dk) : Option Wr := match probsD d with
 | [] => none
 | p :: _ => some (if p.1 = 6 then cutK (rdS d) p.2 16 else entW (rdS d) p.2.toNat)
theorem probs_head {od : Nat → Bool} {I : List Ino} {E : List Ent} {own : Nat → Nat} {p : Int × Int} {t : List (Int × Int)} (h : probs od I E own = p :: t) :
  (∃ kind k : Nat, 1 ≤ kind ∧ kind ≤ 5 ∧ k < 24 ∧ p = (((kind : Nat) : Int), ((k : Nat) : Int)) ∧ prbP od I E (reachR (kdI I) E) kind k = true) ∨ ∃ b : Nat, 1 ≤ b ∧ b ≤ 24 ∧ p = ((6 : Int), ((b : Nat) : Int)) ∧ 1 < own b := by
 have hm : p ∈ probs od I E own := by rw [h]; exact List.mem_cons_self
 unfold probs prbK prbB at hm
 rcases List.mem_append.1 hm with hm | hm
 ·obtain ⟨j, hj, rfl⟩ := List.mem_map.1 hm
  obtain ⟨h1, h2⟩ := List.mem_filter.1 hj
  have h1 := List.mem_range.1 h1
  exact .inl ⟨j / 24 + 1, j % 24, by omega, by omega, by omega, rfl, h2⟩
 ·obtain ⟨j, hj, rfl⟩ := List.mem_map.1 hm
  obtain ⟨h1, h2⟩ := List.mem_filter.1 hj
  have h1 := List.mem_range.1 h1
  exact .inr ⟨j + 1, by omega, by omega, rfl, of_decide_eq_true h2⟩
theorem entAt_zero {f : Int → List UInt8} {k : Nat} (h : f (17 + (k : Nat)) = zeroS) : (entAt f (k : Nat)).u = false := by
 unfold entAt
 split
 ·rw [h]
  unfold entOf
  rw [if_neg zero_not]; rfl
 ·rfl
theorem prb_nz {d : Option Dk} {R : List Bool} {kind k : Nat} (hk : k < 24) (h1 : 1 ≤ kind ∧ kind ≤ 5) (h : prbP (dod d) (xI (rdS d) 16) (xE (rdS d) 24) R kind k = true) : rdS d (17 + (k : Nat)) ≠ zeroS := by
 intro hz
 have hu := entAt_zero hz
 have hk5 : kind = 1 ∨ kind = 2 ∨ kind = 3 ∨ kind = 4 ∨ kind = 5 := by omega
 unfold prbP at h
 rw [xE_getD _ hk] at h
 rcases hk5 with rfl | rfl | rfl | rfl | rfl
 ·have h : dod d k = true := h
  have h := of_decide_eq_true h
  have h2 := h.2
  rw [hz] at h2
  have : entOk zeroS = true := decide_eq_true (.inl rfl)
  rw [this] at h2; cases h2
 all_goals (simp only [hu, Bool.false_and] at h; cases h)
def sumK (g : Nat → Nat) : Nat → Nat
 | 0 => 0
 | k + 1 => sumK g k + g k
theorem sumK_eq {g g' : Nat → Nat} : ∀ {k : Nat}, (∀ i, i < k → g' i = g i) → sumK g' k = sumK g k
 | 0, _ => rfl
 | k + 1, h => by
  simp only [sumK]
  rw [sumK_eq (k := k) (fun i hi => h i (by omega)), h k (by omega)]
theorem sumK_lt {g g' : Nat → Nat} {n : Nat} : ∀ {k : Nat}, n < k → (∀ i, i < k → i ≠ n → g' i = g i) → g' n < g n → sumK g' k < sumK g k
 | 0, h, _, _ => by omega
 | k + 1, h, h1, h2 => by
  simp only [sumK]
  by_cases hk : n = k
  ·subst hk
   rw [sumK_eq (k := n) (fun i hi => h1 i (by omega) (by omega))]; omega
  ·rw [h1 k (by omega) (fun e => hk e.symm)]
   have := sumK_lt (k := k) (by omega) (fun i hi hn => h1 i (by omega) hn) h2
   omega
def nb (x : Ino) : Nat := (if x.b0 = 0 then 0 else 1) + (if x.b1 = 0 then 0 else 1) + (if x.b2 = 0 then 0 else 1) + (if x.b3 = 0 then 0 else 1)
def mu (f : Int → List UInt8) : Nat := sumK (fun k => if f (17 + (k : Nat)) = zeroS then 0 else 1) 24 + sumK (fun n => nb (inoAt f (n : Nat))) 16
theorem inoAt_one {f f' : Int → List UInt8} {n : Int} (h : f' (1 + n) = f (1 + n)) : inoAt f' n = inoAt f n := by unfold inoAt; rw [h]
theorem mu_ent {f f' : Int → List UInt8} {k : Nat} (hk : k < 24) (hz : f (17 + (k : Nat)) ≠ zeroS) (hf : ∀ n, f' n = if n = 17 + (k : Nat) then zeroS else f n) : mu f' < mu f := by
 unfold mu
 have h1 : sumK (fun k => if f' (17 + (k : Nat)) = zeroS then 0 else 1) 24 < sumK (fun k => if f (17 + (k : Nat)) = zeroS then 0 else 1) 24 := by
  refine sumK_lt (n := k) hk (fun i _ hne => ?_) ?_
  ·show (if f' (17 + (i : Nat)) = zeroS then 0 else 1) = _
   rw [show f' (17 + (i : Nat)) = f (17 + (i : Nat)) by rw [hf]; exact if_neg (by omega)]
  ·show (if f' _ = zeroS then 0 else 1) < (if f _ = zeroS then 0 else 1)
   rw [hf, if_pos rfl, if_pos rfl, if_neg hz]; exact Nat.one_pos
 have h2 : sumK (fun n => nb (inoAt f' (n : Nat))) 16 = sumK (fun n => nb (inoAt f (n : Nat))) 16 := by
  refine sumK_eq fun i hi => ?_
  show nb (inoAt f' _) = nb (inoAt f _)
  rw [inoAt_one (f := f) (f' := f') (by rw [hf, if_neg (by omega)])]
 omega
theorem mu_ino {f f' : Int → List UInt8} {n : Nat} {x : Ino} {s : List UInt8} (hn : n < 16) (hx : inoOf s = x) (hlt : nb x < nb (inoAt f (n : Nat))) (hf : ∀ q, f' q = if q = 1 + (n : Nat) then s else f q) : mu f' < mu f := by
 unfold mu
 have h1 : sumK (fun k => if f' (17 + (k : Nat)) = zeroS then 0 else 1) 24 = sumK (fun k => if f (17 + (k : Nat)) = zeroS then 0 else 1) 24 := by
  refine sumK_eq fun i hi => ?_
  show (if f' (17 + (i : Nat)) = zeroS then 0 else 1) = _
  rw [show f' (17 + (i : Nat)) = f (17 + (i : Nat)) by rw [hf]; exact if_neg (by omega)]
 have h2 : sumK (fun n => nb (inoAt f' (n : Nat))) 16 < sumK (fun n => nb (inoAt f (n : Nat))) 16 := by
  refine sumK_lt (n := n) hn (fun i _ hne => ?_) ?_
  ·show nb (inoAt f' _) = nb (inoAt f _)
   rw [inoAt_one (f := f) (f' := f') (by rw [hf, if_neg (by omega)])]
  ·have : inoAt f' (n : Nat) = x := by
    unfold inoAt
    rw [if_pos (by omega), hf, if_pos rfl, hx]
   show nb (inoAt f' _) < nb (inoAt f _)
   rw [this]; exact hlt
 omega
theorem cutI_RI {x : Ino} (h : RI x) {i : Nat} {b : Int} (hb : 1 ≤ b) (hp : posB x b = some i) : RI (cutI x i) ∧ nb (cutI x i) < nb x ∧ x.k = 1 ∧ i < 4 := by
 unfold posB at hp
 unfold RI at h
 by_cases e0 : x.b0 = b
 ·rw [if_pos e0] at hp
  obtain rfl := Option.some.inj hp
  have n0 : ¬ x.b0 = 0 := by omega
  refine ⟨?_, ?_, by omega, by omega⟩
  ·unfold RI cutI; simp; omega
  ·unfold nb cutI; simp [n0]; omega
 ·rw [if_neg e0] at hp
  by_cases e1 : x.b1 = b
  ·rw [if_pos e1] at hp
   obtain rfl := Option.some.inj hp
   have n0 : ¬ x.b0 = 0 := by omega
   have n1 : ¬ x.b1 = 0 := by omega
   refine ⟨?_, ?_, by omega, by omega⟩
   ·unfold RI cutI; simp; omega
   ·unfold nb cutI; simp [n0, n1]; omega
  ·rw [if_neg e1] at hp
   by_cases e2 : x.b2 = b
   ·rw [if_pos e2] at hp
    obtain rfl := Option.some.inj hp
    have n0 : ¬ x.b0 = 0 := by omega
    have n1 : ¬ x.b1 = 0 := by omega
    have n2 : ¬ x.b2 = 0 := by omega
    refine ⟨?_, ?_, by omega, by omega⟩
    ·unfold RI cutI; simp; omega
    ·unfold nb cutI; simp [n0, n1, n2]; omega
   ·rw [if_neg e2] at hp
    by_cases e3 : x.b3 = b
    ·rw [if_pos e3] at hp
     obtain rfl := Option.some.inj hp
     have n0 : ¬ x.b0 = 0 := by omega
     have n1 : ¬ x.b1 = 0 := by omega
     have n2 : ¬ x.b2 = 0 := by omega
     have n3 : ¬ x.b3 = 0 := by omega
     refine ⟨?_, ?_, by omega, by omega⟩
     ·unfold RI cutI; simp; omega
     ·unfold nb cutI; simp [n0, n1, n2, n3]
    ·rw [if_neg e3] at hp; cases hp
end Go.Proofs.YthknbpijaoljgaaGreatDoor
namespace Go.Proofs.YthknbpijaoljgaaGreatDoor
open Go.Sy
theorem inoOfR_S {x : Ino} (h : RI x) : inoOfR (inoS x) = x := by
 have hb := RI_byte h
 have e : ∀ n ∈ inoL x, ((by8 n).toNat : Int) = n := fun n hn => by8_ok (hb n hn)
 have e0 := e x.k (by simp [inoL])
 have e1 := e x.z (by simp [inoL])
 have e2 := e x.b0 (by simp [inoL])
 have e3 := e x.b1 (by simp [inoL])
 have e4 := e x.b2 (by simp [inoL])
 have e5 := e x.b3 (by simp [inoL])
 show Ino.mk _ _ _ _ _ _ = x
 cases x
 simp only [Ino.mk.injEq]
 exact ⟨e0, e1, e2, e3, e4, e5⟩
theorem inoOf_S {x : Ino} (h : RI x) : inoB (inoS x) ∧ inoOf (inoS x) = x := by
 have e := inoOfR_S h
 have hB : inoB (inoS x) := ⟨by rw [e]; exact h, by rw [e]⟩
 refine ⟨hB, ?_⟩
 unfold inoOf
 rw [if_pos hB, e]
theorem inoS_len (x : Ino) : (inoS x).length = 32 := rfl
theorem posB_some {x : Ino} {b : Int} (h : b ∈ blks x) : ∃ i, posB x b = some i := by
 unfold posB
 by_cases e0 : x.b0 = b
 ·exact ⟨0, if_pos e0⟩
 rw [if_neg e0]
 by_cases e1 : x.b1 = b
 ·exact ⟨1, if_pos e1⟩
 rw [if_neg e1]
 by_cases e2 : x.b2 = b
 ·exact ⟨2, if_pos e2⟩
 rw [if_neg e2]
 by_cases e3 : x.b3 = b
 ·exact ⟨3, if_pos e3⟩
 simp only [blks, List.mem_cons, List.not_mem_nil, or_false] at h
 omega
theorem cutK_is {f : Int → List UInt8} {b : Int} {k : Nat} (h : ∃ n, n < k ∧ b ∈ blks (inoAt f (n : Nat)) ∧ takP f (n : Nat)) : ∃ n i, n < k ∧ posB (inoAt f (n : Nat)) b = some i ∧ cutK f b k = cutW1 n (cutI (inoAt f (n : Nat)) i) := by
 induction k with
 | zero => obtain ⟨n, h, _⟩ := h; omega
 | succ k ih =>
  obtain ⟨n, hn, hb, ht⟩ := h
  by_cases hg : b ∈ blks (inoAt f (k : Nat)) ∧ takP f (k : Nat)
  ·obtain ⟨i, hi⟩ := posB_some hg.1
   refine ⟨k, i, by omega, hi, ?_⟩
   rw [cutK_succ, hi, decide_eq_true hg.2]; rfl
  ·have hnk : n ≠ k := fun e => hg (e ▸ ⟨hb, ht⟩)
   obtain ⟨q, i, h1, h2, h3⟩ := ih ⟨n, by omega, hb, ht⟩
   refine ⟨q, i, by omega, h2, ?_⟩
   rw [cutK_succ]
   cases hp : posB (inoAt f (k : Nat)) b with
   | none => exact h3
   | some j =>
    by_cases htk : takP f (k : Nat)
    ·by_cases hbk : b ∈ blks (inoAt f (k : Nat))
     ·exact absurd ⟨hbk, htk⟩ hg
     ·exfalso
      apply hbk
      unfold posB at hp
      simp only [blks, List.mem_cons, List.not_mem_nil, or_false]
      by_cases e0 : (inoAt f (k : Nat)).b0 = b
      ·exact .inl e0.symm
      rw [if_neg e0] at hp
      by_cases e1 : (inoAt f (k : Nat)).b1 = b
      ·exact .inr (.inl e1.symm)
      rw [if_neg e1] at hp
      by_cases e2 : (inoAt f (k : Nat)).b2 = b
      ·exact .inr (.inr (.inl e2.symm))
      rw [if_neg e2] at hp
      by_cases e3 : (inoAt f (k : Nat)).b3 = b
      ·exact .inr (.inr (.inr e3.symm))
      rw [if_neg e3] at hp; cases hp
    ·rw [decide_eq_false htk]; exact h3
theorem own_some {d : Option Dk} {b : Nat} (h : 1 < dOwn d b) : ∃ n, n < 16 ∧ ((b : Nat) : Int) ∈ blks (inoAt (rdS d) (n : Nat)) ∧ takP (rdS d) (n : Nat) := by
 unfold dOwn ownK at h
 cases hl : (List.range 16).filter fun i => decide (((fun i => (xI (rdS d) 16).getD i ino0) i).k = 1 ∧ ((b : Nat) : Int) ∈ blks ((fun i => (xI (rdS d) 16).getD i ino0) i)) && (fun i => decide (takP (rdS d) ((i : Nat) : Int))) i with
 | nil => rw [hl] at h; simp at h
 | cons n t =>
  have hm : n ∈ n :: t := List.mem_cons_self
  rw [← hl] at hm
  obtain ⟨h1, h2⟩ := List.mem_filter.1 hm
  have h1 := List.mem_range.1 h1
  simp only [Bool.and_eq_true, decide_eq_true_eq] at h2
  have e1 : (xI (rdS d) 16).getD n ino0 = inoAt (rdS d) (n : Nat) := by
   have h3 : n < (xI (rdS d) 16).length := by rw [xI_len]; exact h1
   rw [List.getD_eq_getElem?_getD, List.getElem?_eq_getElem h3, Option.getD_some, xI_get, if_pos h1]
  rw [e1] at h2
  exact ⟨n, h1, h2.1.2, h2.2⟩
structure Mnt (d : Dk) : Prop where
 s : ∀ s ∈ d.safe, s.length = 32
 w : ∀ w ∈ d.wait, w.s.length = 32
 n : d.safe.length = 65
 f0 : rdS (some d) 0 = superS
 f1 : inoB (rdS (some d) 1)
 f2 : (inoOf (rdS (some d) 1)).k = 2
theorem step_mnt {d : Dk} (h : Mnt d) {w : Wr} (hw : nextW (some d) = some w) : Mnt (wrD d w) ∧ mu (rdS (some (wrD d w))) < mu (rdS (some d)) ∧ 1 ≤ w.a ∧ w.a < 65 ∧ w.s.length = 32 := by
 have key : ∀ {a : Int} {s : List UInt8}, w.a = a → w.s = s → 1 ≤ a → a < 65 → s.length = 32 → (a = 1 → inoB s ∧ (inoOf s).k = 2) → (∀ f', (∀ n, f' n = if n = a then s else rdS (some d) n) → mu f' < mu (rdS (some d))) → Mnt (wrD d w) ∧ mu (rdS (some (wrD d w))) < mu (rdS (some d)) ∧ 1 ≤ w.a ∧ w.a < 65 ∧ w.s.length = 32 := by
  intro a s ha hs h1 h2 h3 h4 h5
  subst ha hs
  have hr := fun n => rdS_wr d w n ⟨by omega, by have := h.n; omega⟩
  refine ⟨⟨h.s, fun x hx => ?_, h.n, ?_, ?_, ?_⟩, h5 _ hr, h1, h2, h3⟩
  ·rcases List.mem_append.1 hx with hx | hx
   ·exact h.w x hx
   ·rw [List.mem_singleton.1 hx]; exact h3
  ·rw [hr, if_neg (by omega)]; exact h.f0
  ·rw [hr]
   by_cases e : (1 : Int) = w.a
   ·rw [if_pos e]; exact (h4 e.symm).1
   ·rw [if_neg e]; exact h.f1
  ·rw [hr]
   by_cases e : (1 : Int) = w.a
   ·rw [if_pos e]; exact (h4 e.symm).2
   ·rw [if_neg e]; exact h.f2
 unfold nextW at hw
 cases hp : probsD (some d) with
 | nil => rw [hp] at hw; cases hw
 | cons p t =>
  rw [hp] at hw
  have hw := Option.some.inj hw
  rcases probs_head hp with ⟨kind, k, k1, k2, k3, rfl, hP⟩ | ⟨b, b1, b2, rfl, hb⟩
  ·rw [if_neg (by show ¬ ((kind : Nat) : Int) = 6; omega)] at hw
   have hw : entW (rdS (some d)) k = w := by rw [← hw]; rfl
   have hz := prb_nz k3 ⟨k1, k2⟩ hP
   refine key (a := 17 + (k : Nat)) (s := zeroS) (by rw [← hw]; rfl) (by rw [← hw]; rfl) (by omega) (by omega) rfl (fun e => by omega) fun f' hf => mu_ent k3 hz hf
  ·rw [if_pos rfl] at hw
   obtain ⟨n, i, hn, hi, e⟩ := cutK_is (f := rdS (some d)) (b := ((b : Nat) : Int)) (own_some hb)
   have hRI := inoAt_RI (rdS (some d)) (n : Nat)
   obtain ⟨c1, c2, c3, c4⟩ := cutI_RI hRI (by omega) hi
   have hw : cutW1 n (cutI (inoAt (rdS (some d)) (n : Nat)) i) = w := e.symm.trans hw
   have hs : w.s = inoS (cutI (inoAt (rdS (some d)) (n : Nat)) i) := by rw [← hw]; exact if_pos c1
   obtain ⟨o1, o2⟩ := inoOf_S c1
   have hn0 : n ≠ 0 := by
    rintro rfl
    have e0 : inoAt (rdS (some d)) ((0 : Nat) : Int) = inoOf (rdS (some d) 1) := by unfold inoAt; rw [if_pos (by omega)]; rfl
    rw [e0, h.f2] at c3; cases c3
   exact key (a := 1 + (n : Nat)) (by rw [← hw]; rfl) hs (by omega) (by omega) (inoS_len _) (fun e => by omega) fun f' hf => mu_ino hn o2 c2 hf
def stepD (d : Dk) : Dk := match nextW (some d) with
 | none => d
 | some w => wrD d w
def itD (d : Dk) : Nat → Dk
 | 0 => d
 | i + 1 => stepD (itD d i)
theorem it_mnt {d : Dk} (h : Mnt d) : ∀ i, Mnt (itD d i)
 | 0 => h
 | i + 1 => by
  show Mnt (stepD (itD d i))
  unfold stepD
  cases hw : nextW (some (itD d i)) with
  | none => exact it_mnt h i
  | some w => exact (step_mnt (it_mnt h i) hw).1
theorem it_end {d : Dk} (h : Mnt d) : ∃ i, i ≤ mu (rdS (some d)) ∧ nextW (some (itD d i)) = none ∧ ∀ j, j < i → nextW (some (itD d j)) ≠ none := by
 have key : ∀ n i, mu (rdS (some (itD d i))) + i ≤ mu (rdS (some d)) → mu (rdS (some (itD d i))) ≤ n → (∀ j, j < i → nextW (some (itD d j)) ≠ none) → ∃ i, i ≤ mu (rdS (some d)) ∧ nextW (some (itD d i)) = none ∧ ∀ j, j < i → nextW (some (itD d j)) ≠ none := by
  intro n
  induction n with
  | zero =>
   intro i h1 h2 h3
   cases hw : nextW (some (itD d i)) with
   | none => exact ⟨i, by omega, hw, h3⟩
   | some w => have := (step_mnt (it_mnt h i) hw).2.1; omega
  | succ n ih =>
   intro i h1 h2 h3
   cases hw : nextW (some (itD d i)) with
   | none => exact ⟨i, by omega, hw, h3⟩
   | some w =>
    have hs := (step_mnt (it_mnt h i) hw).2.1
    have e : itD d (i + 1) = wrD (itD d i) w := by show stepD (itD d i) = _; unfold stepD; rw [hw]
    rw [← e] at hs
    refine ih (i + 1) (by omega) (by omega) fun j hj => ?_
    by_cases hji : j = i
    ·rw [hji, hw]; exact fun q => by cases q
    ·exact h3 j (by omega)
 exact key _ 0 (by show mu (rdS (some d)) + 0 ≤ _; omega) (Nat.le_refl _) (fun j hj => by omega)
theorem sumK_le {g : Nat → Nat} {c : Nat} (h : ∀ i, g i ≤ c) : ∀ k, sumK g k ≤ c * k
 | 0 => Nat.le_refl _
 | k + 1 => by
  have := sumK_le h k
  have := h k
  simp only [sumK]
  rw [Nat.mul_succ]; omega
theorem nb_le (x : Ino) : nb x ≤ 4 := by
 have one : ∀ z : Int, (if z = 0 then 0 else 1 : Nat) ≤ 1 := fun z => by split <;> omega
 have h0 := one x.b0
 have h1 := one x.b1
 have h2 := one x.b2
 have h3 := one x.b3
 unfold nb; omega
theorem mu_le (f : Int → List UInt8) : mu f ≤ 88 := by
 unfold mu
 have h1 := sumK_le (g := fun k => if f (17 + ((k : Nat) : Int)) = zeroS then 0 else 1) (c := 1) (fun i => by show (if _ then _ else _) ≤ 1; split <;> omega) 24
 have h2 := sumK_le (g := fun n => nb (inoAt f ((n : Nat) : Int))) (c := 4) (fun i => nb_le _) 16
 omega
end Go.Proofs.YthknbpijaoljgaaGreatDoor
namespace Go.Proofs.YthknbpijaoljgaaGreatDoor
open Go.Sy
set_option maxHeartbeats 4000000 in
theorem mentry_ok (d : Option Dk) (hd : DkOK d) (k : Nat) (hk : k < 24) : FnC Tryz.prog 39 [.d (encD d), .d (.it .i64 (k : Nat))] (.dg 36 (encW (entW (rdS d) k))) := by
 have he := entry_ok d hd (k : Nat)
 rw [encE] at he
 refine FnC.intro ti_ok Tryz.func39 rfl Tryz.ntmps39 Tryz.call39 rfl (Nat.le_of_ble_eq_true rfl) rfl ?_
 (repeat' ((conv=>whnf);first|with_reducible refine gA ?_|((with_reducible refine callE_id ?_); (refine CallE.con ⟨_, he, ?_⟩))|(with_reducible first|refine gB ?_|refine gZ (fun x hx hu=>?_)|refine gY (fun x hx=>?_)|refine gE ?_|refine Both.mk ?_ ?_|refine gS (fun h=>?_) (fun h=>?_)|refine Spl.nt ?_|refine Spl.mk (fun h=>?_) (fun h=>?_))))
 rfl
def ctS (d : Option Dk) (b : Int) (k : Nat) (w : Wr) : S := ⟨[(0, .d (encD d)), (1, .d (.it .i64 b)), (4, .ptr 0 0), (5, .ptr 2 0), (9, .d (.it .i64 (k : Nat)))], [(0, .cells 36 ((encW w0).map .d)), (2, .cells 36 ((encW w).map .d))], 4⟩
theorem ctS_ok (d : Option Dk) (b : Int) (k : Nat) (w : Wr) : (ctS d b k w).ok = true := by
 unfold ctS
 simp only [S.ok, List.all_cons, List.all_nil, Ob.lt, all_d]; rfl
theorem cutV {x : Ino} (h : RI x) : inoR x = .tup [.dg 32 (encS (inoS x)), .d (.bl true)] := by
 unfold inoR
 rw [if_pos h, encL_S (RI_byte h)]; rfl
theorem cutW1_s {n : Nat} {x : Ino} (h : RI x) : encW (cutW1 n x) = [.it .i64 (1 + (n : Nat))] ++ encS (inoS x) ++ [.it .i64 2, .it .i64 (n : Nat), .it .i64 0] := by
 unfold cutW1 encW
 dsimp only
 rw [if_pos h]
theorem cutS_n {o : Option Nat} {t : Bool} {n : Nat} {x : Ino} {r : Wr} (h : t = false ∨ o = none) : cutS o t n x r = r := by
 rcases h with rfl | rfl
 ·cases o <;> rfl
 ·rfl
theorem st36 {a l : List AV} (h : a.length ≤ 36) : l = a.take 0 ++ l ++ a.drop (0 + 36) := by rw [List.drop_eq_nil_of_le (by omega)]; simp
theorem posB_none {x : Ino} {b : Int} (h0 : ¬ x.b0 = b) (h1 : ¬ x.b1 = b) (h2 : ¬ x.b2 = b) (h3 : ¬ x.b3 = b) : posB x b = none := by
 unfold posB
 rw [if_neg h0, if_neg h1, if_neg h2, if_neg h3]
theorem cutW1_l (n : Nat) (x : Ino) : (cutW1 n x).s.length = 32 := by
 show (if RI x then inoS x else zeroS).length = 32
 split <;> rfl
theorem cutK_s (f : Int → List UInt8) (b : Int) : ∀ k, (cutK f b k).s.length = 32
 | 0 => rfl
 | k + 1 => by
  rw [cutK_succ]
  cases posB (inoAt f (k : Nat)) b with
  | none => exact cutK_s f b k
  | some i =>
   cases decide (takP f (k : Nat)) with
   | false => exact cutK_s f b k
   | true => exact cutW1_l _ _
theorem ldW36 {w : Wr} (h : w.s.length = 32) {ty : Ty} (ha : ty.kd.agg = true) (hz : ty.size = 36) : ldA ty 0 ((encW w).map AV.d) = .dg 36 (encW w) := by
 unfold ldA
 rw [ha, cond_true, hz, List.drop_zero, List.take_of_length_le (by rw [List.length_map, encW_len h]; exact Nat.le_refl _)]
 unfold mkAg
 rw [allD_map]
theorem ldW36b {w : Wr} (h : w.s.length = 32) {a : List AV} (hx : a = (encW w).map AV.d) {ty : Ty} (ha : ty.kd.agg = true) (hz : ty.size = 36) : ldA ty 0 a = .dg 36 (encW w) := by rw [hx]; exact ldW36 h ha hz
theorem ctW {f : Int → List UInt8} {b : Int} {k : Nat} {x : Ino} {i : Nat} {r : Wr} (hR : RI (cutI x i)) (hp : posB x b = some i) (h : cutK f b (k + 1) = cutS (posB x b) true k x r) : (encW (cutK f b (k + 1))).map AV.d = [AV.d (.it .i64 (1 + (k : Nat)))] ++ (encS (inoS (cutI x i))).map AV.d ++ [.d (.it .i64 2), .d (.it .i64 (k : Nat)), .d (.it .i64 0)] := by
 rw [h, hp]
 show (encW (cutW1 k (cutI x i))).map AV.d = _
 rw [cutW1_s hR, List.map_append, List.map_append]; rfl
theorem ctI {x : Ino} (h : RI x) {b : Int} (hb : 1 ≤ b) {i : Nat} (hp : posB x b = some i) : FnC Tryz.prog 84 [.dg 6 (encI (cutI x i))] (.tup [.dg 32 (encS (inoS (cutI x i))), .d (.bl true)]) ∧ RI (cutI x i) := by
 have hR := (cutI_RI h hb hp).1
 have := ino_ok (cutI x i)
 rw [cutV hR] at this
 exact ⟨this, hR⟩
set_option maxHeartbeats 16000000 in
theorem cut38_ok (d : Option Dk) (hd : DkOK d) (b : Int) (hb : 1 ≤ b ∧ b ≤ 24) : FnC Tryz.prog 38 [.d (encD d), .d (.it .i64 b)] (.dg 36 (encW (cutK (rdS d) b 16))) := by
 have hi := fun n => inode_ok d hd n
 have ht := fun n => taken_ok d hd n
 refine FnC.intro ti_ok Tryz.func38 rfl Tryz.ntmps38 Tryz.call38 rfl (Nat.le_of_ble_eq_true rfl) rfl ?_
 (repeat' ((conv=>whnf);first|with_reducible refine gA ?_|(with_reducible first|refine gB ?_|refine gZ (fun x hx hu=>?_)|refine gY (fun x hx=>?_)|refine gE ?_|refine Both.mk ?_ ?_|refine gS (fun h=>?_) (fun h=>?_)|refine Spl.nt ?_|refine Spl.mk (fun h=>?_) (fun h=>?_))))
 conv => whnf
 refine loop_rule ti_ok (fun k : Nat => k ≤ 16) (fun k => ctS d b k (cutK (rdS d) b k)) (fun k => 16 - k) 0 (Nat.zero_le _) ⟨And.intro rfl (And.intro rfl (And.intro rfl (And.intro rfl (And.intro rfl trivial)))), And.intro rfl (And.intro rfl trivial), ctS_ok ..⟩ ?_
 intro k hk
 by_cases hk16 : k < 16
 ·have hik := hi (k : Nat)
  have htk := ht (k : Nat)
  have hRI := inoAt_RI (rdS d) (k : Nat)
  have hsc := cutK_succ (rdS d) b k
  have hl0 : ((encW (cutK (rdS d) b k)).map AV.d).length ≤ 36 := by rw [List.length_map, encW_len (cutK_s (rdS d) b k)]; exact Nat.le_refl _
  generalize inoAt (rdS d) (k : Nat) = x at hik hRI hsc
  have hx6 : encI x = [.it .i64 x.k, .it .i64 x.z, .it .i64 x.b0, .it .i64 x.b1, .it .i64 x.b2, .it .i64 x.b3] := rfl
  rw [hx6] at hik
  have c0 := fun (h : x.b0 = b) => ctI hRI hb.1 (i := 0) (show posB x b = some 0 from if_pos h)
  have c1 := fun (h0 : ¬ x.b0 = b) (h : x.b1 = b) => ctI hRI hb.1 (i := 1) (show posB x b = some 1 from (if_neg h0).trans (if_pos h))
  have c2 := fun (h0 : ¬ x.b0 = b) (h1 : ¬ x.b1 = b) (h : x.b2 = b) => ctI hRI hb.1 (i := 2) (show posB x b = some 2 from (if_neg h0).trans ((if_neg h1).trans (if_pos h)))
  have c3 := fun (h0 : ¬ x.b0 = b) (h1 : ¬ x.b1 = b) (h2 : ¬ x.b2 = b) (h : x.b3 = b) => ctI hRI hb.1 (i := 3) (show posB x b = some 3 from (if_neg h0).trans ((if_neg h1).trans ((if_neg h2).trans (if_pos h))))
  by_cases hT : takP (rdS d) (k : Nat)
  all_goals first | rw [decide_eq_true hT] at htk hsc | rw [decide_eq_false hT] at htk hsc
  all_goals (repeat' ((conv=>whnf);first|with_reducible refine gA ?_|((with_reducible refine callE_id ?_); first | (refine CallE.con ⟨_, hik, ?_⟩) | (refine CallE.con ⟨_, htk, ?_⟩) | (refine CallE.con ⟨_, (c0 (by omega)).1, ?_⟩) | (refine CallE.con ⟨_, (c1 (by omega) (by omega)).1, ?_⟩) | (refine CallE.con ⟨_, (c2 (by omega) (by omega) (by omega)).1, ?_⟩) | (refine CallE.con ⟨_, (c3 (by omega) (by omega) (by omega) (by omega)).1, ?_⟩) | refine CallE.inl ?_) | ((with_reducible refine callI_id ?_); with_reducible refine CallI.inl ti_ok i82 rfl ?_) | with_reducible refine LoopS.unroll ti_ok 5 ?_ | ((with_reducible refine letC_id ?_); refine LetC.mk _ (st36 hl0) ?_) | ((with_reducible refine opX_id ?_); refine OpX.clearM ti_ok rfl rfl rfl (by with_unfolding_all exact rfl) rfl (by with_unfolding_all exact rfl) rfl rfl (by with_unfolding_all exact rfl) (by with_unfolding_all exact rfl) (by decide) (fun _ => by decide) ?_)|(with_reducible first|refine gB ?_|refine gZ (fun x hx hu=>?_)|refine gY (fun x hx=>?_)|refine gE ?_|refine Both.mk ?_ ?_|refine gS (fun h=>?_) (fun h=>?_)|refine Spl.nt ?_|refine Spl.mk (fun h=>?_) (fun h=>?_))))
  all_goals first
   | (refine again (k + 1) hk16 (by first | omega | (dsimp only; omega)) (And.intro rfl (And.intro rfl (And.intro rfl (And.intro rfl (And.intro (it_eq (by omega)) trivial))))) (And.intro rfl (And.intro (cells_eq rfl (by rw [hsc, cutS_n (by first | exact .inl rfl | exact .inr (posB_none (by omega) (by omega) (by omega) (by omega)))])) trivial)) (ctS_ok ..); done)
   | (refine again (k + 1) hk16 (by first | omega | (dsimp only; omega)) (And.intro rfl (And.intro rfl (And.intro rfl (And.intro rfl (And.intro (it_eq (by omega)) trivial))))) (And.intro rfl (And.intro (cells_eq rfl ((by with_unfolding_all exact rfl : _ = [AV.d (.it .i64 (1 + (k : Nat)))] ++ (encS (inoS (cutI x 0))).map AV.d ++ [.d (.it .i64 2), .d (.it .i64 (k : Nat)), .d (.it .i64 0)]).trans (ctW (c0 (by omega)).2 (if_pos (by omega)) hsc).symm)) trivial)) (ctS_ok ..); done)
   | (refine again (k + 1) hk16 (by first | omega | (dsimp only; omega)) (And.intro rfl (And.intro rfl (And.intro rfl (And.intro rfl (And.intro (it_eq (by omega)) trivial))))) (And.intro rfl (And.intro (cells_eq rfl ((by with_unfolding_all exact rfl : _ = [AV.d (.it .i64 (1 + (k : Nat)))] ++ (encS (inoS (cutI x 1))).map AV.d ++ [.d (.it .i64 2), .d (.it .i64 (k : Nat)), .d (.it .i64 0)]).trans (ctW (c1 (by omega) (by omega)).2 ((if_neg (by omega)).trans (if_pos (by omega))) hsc).symm)) trivial)) (ctS_ok ..); done)
   | (refine again (k + 1) hk16 (by first | omega | (dsimp only; omega)) (And.intro rfl (And.intro rfl (And.intro rfl (And.intro rfl (And.intro (it_eq (by omega)) trivial))))) (And.intro rfl (And.intro (cells_eq rfl ((by with_unfolding_all exact rfl : _ = [AV.d (.it .i64 (1 + (k : Nat)))] ++ (encS (inoS (cutI x 2))).map AV.d ++ [.d (.it .i64 2), .d (.it .i64 (k : Nat)), .d (.it .i64 0)]).trans (ctW (c2 (by omega) (by omega) (by omega)).2 ((if_neg (by omega)).trans ((if_neg (by omega)).trans (if_pos (by omega)))) hsc).symm)) trivial)) (ctS_ok ..); done)
   | (refine again (k + 1) hk16 (by first | omega | (dsimp only; omega)) (And.intro rfl (And.intro rfl (And.intro rfl (And.intro rfl (And.intro (it_eq (by omega)) trivial))))) (And.intro rfl (And.intro (cells_eq rfl ((by with_unfolding_all exact rfl : _ = [AV.d (.it .i64 (1 + (k : Nat)))] ++ (encS (inoS (cutI x 3))).map AV.d ++ [.d (.it .i64 2), .d (.it .i64 (k : Nat)), .d (.it .i64 0)]).trans (ctW (c3 (by omega) (by omega) (by omega) (by omega)).2 ((if_neg (by omega)).trans ((if_neg (by omega)).trans ((if_neg (by omega)).trans (if_pos (by omega))))) hsc).symm)) trivial)) (ctS_ok ..); done)
 ·have h16 : k = 16 := by omega
  have hl := cutK_s (rdS d) b k
  (repeat' ((conv=>whnf);first|with_reducible refine gA ?_|((with_reducible refine atA_id ?_); refine AtA.eq (ldW36 hl rfl rfl) ?_)|(with_reducible first|refine gB ?_|refine gZ (fun x hx hu=>?_)|refine gY (fun x hx=>?_)|refine gE ?_|refine Both.mk ?_ ?_|refine gS (fun h=>?_) (fun h=>?_)|refine Spl.nt ?_|refine Spl.mk (fun h=>?_) (fun h=>?_))))
  conv => whnf
  generalize hv : ldA _ 0 _ = v
  have hv' : v = .dg 36 (encW (cutK (rdS d) b k)) := by
   rw [← hv]
   refine ldW36b hl ?_ rfl rfl
   show [] ++ _ ++ List.drop (0 + 36) ((encW w0).map AV.d) = _
   rw [List.nil_append, show List.drop (0 + 36) ((encW w0).map AV.d) = [] from rfl, List.append_nil]
  rw [hv', h16]
  rfl
theorem probs_nil {d : Option Dk} (h : probsD d = []) : nextW d = none := by unfold nextW; rw [h]
theorem probs_cons {d : Option Dk} {p : Int × Int} {t : List (Int × Int)} (h : probsD d = p :: t) : nextW d = some (if p.1 = 6 then cutK (rdS d) p.2 16 else entW (rdS d) p.2.toNat) := by unfold nextW; rw [h]
end Go.Proofs.YthknbpijaoljgaaGreatDoor
namespace Go.Proofs.YthknbpijaoljgaaGreatDoor
open Go.Sy
def badS (m : List (List D × D)) (n : Int) : List (List D × D) := mset m [.it .i64 n] (.it .i64 1)
def badM (l : List Int) : List (List D × D) := l.foldl badS []
def gt0 (m : List (List D × D)) (n : Int) : D := match mget m [.it .i64 n] with | some v => v | none => .it .i64 0
theorem eqK1 (a b : Int) : eqKs [.it .i64 a] [.it .i64 b] = decide (a = b) := by
 show ((a == b) && true) = _
 rw [Bool.and_true]; rfl
theorem badS_get : ∀ (m : List (List D × D)) (hm : ∀ p ∈ m, ∃ a, p.1 = [D.it .i64 a]) (x n : Int), gt0 (badS m x) n = if n = x then .it .i64 1 else gt0 m n
 | [], _, x, n => by
  unfold gt0 badS
  simp only [mset, mget, eqK1]
  by_cases h : n = x
  ·rw [if_pos h, decide_eq_true h.symm]; rfl
  ·rw [if_neg h, decide_eq_false (fun e => h e.symm)]; rfl
 | (k, u) :: t, hm, x, n => by
  obtain ⟨a, rfl⟩ := hm _ List.mem_cons_self
  have ih := badS_get t (fun p hp => hm p (List.mem_cons_of_mem _ hp)) x n
  unfold gt0 badS at ih ⊢
  simp only [mset, mget, eqK1]
  by_cases ha : a = x
  ·subst ha
   rw [decide_eq_true rfl, cond_true]
   simp only [mget, eqK1]
   by_cases h : n = a
   ·rw [if_pos h, decide_eq_true h.symm]; rfl
   ·rw [if_neg h, decide_eq_false (fun e => h e.symm)]; rfl
  ·rw [decide_eq_false ha, cond_false]
   simp only [mget, eqK1]
   by_cases han : a = n
   ·rw [decide_eq_true han, cond_true, cond_true, if_neg (fun e => ha (by omega))]
   ·rw [decide_eq_false han, cond_false, cond_false]; exact ih
theorem mset_keys : ∀ (m : List (List D × D)) (hm : ∀ p ∈ m, ∃ a, p.1 = [D.it .i64 a]) (x : Int) (v : D), ∀ p ∈ mset m [.it .i64 x] v, ∃ a, p.1 = [D.it .i64 a]
 | [], _, x, v, p, hp => by
  rw [List.mem_singleton.1 hp]; exact ⟨x, rfl⟩
 | (k, u) :: t, hm, x, v, p, hp => by
  simp only [mset] at hp
  cases hq : eqKs k [.it .i64 x] with
  | true =>
   rw [hq, cond_true] at hp
   rcases List.mem_cons.1 hp with rfl | hp
   ·exact ⟨x, rfl⟩
   ·exact hm p (List.mem_cons_of_mem _ hp)
  | false =>
   rw [hq, cond_false] at hp
   rcases List.mem_cons.1 hp with rfl | hp
   ·exact hm _ List.mem_cons_self
   ·exact mset_keys t (fun p hp => hm p (List.mem_cons_of_mem _ hp)) x v p hp
theorem badM_snoc (l : List Int) (x : Int) : badM (l ++ [x]) = badS (badM l) x := by unfold badM; rw [List.foldl_append]; rfl
theorem bad_all (l : List Int) : (∀ p ∈ badM l, ∃ a, p.1 = [D.it .i64 a]) ∧ ∀ n, gt0 (badM l) n = .it .i64 (if n ∈ l then 1 else 0) := by
 have key : ∀ k, k ≤ l.length → (∀ p ∈ badM (l.take k), ∃ a, p.1 = [D.it .i64 a]) ∧ ∀ n, gt0 (badM (l.take k)) n = .it .i64 (if n ∈ l.take k then 1 else 0) := by
  intro k
  induction k with
  | zero => intro _; refine ⟨fun p hp => ?_, fun n => rfl⟩; cases hp
  | succ k ih =>
   intro hk
   obtain ⟨h1, h2⟩ := ih (by omega)
   obtain ⟨x, hx⟩ := lt_get (show k < l.length by omega)
   rw [take_snoc hx, badM_snoc]
   refine ⟨fun p hp => mset_keys _ h1 x _ p hp, fun n => ?_⟩
   rw [badS_get _ h1, h2]
   by_cases h : n = x
   ·rw [if_pos h, if_pos (by simp [h])]
   ·rw [if_neg h]
    by_cases hn : n ∈ l.take k
    ·rw [if_pos hn, if_pos (List.mem_append_left _ hn)]
    ·rw [if_neg hn, if_neg (fun hm => by
      rcases List.mem_append.1 hm with hm | hm
      ·exact hn hm
      ·exact h (List.mem_singleton.1 hm))]
 have := key l.length (Nat.le_refl _)
 rwa [List.take_length] at this
def bd (l : List Int) (n : Int) : Int := if n ∈ l then 1 else 0
theorem bad_get (l : List Int) (n : Int) : (match mget (badM l) [.it .i64 n] with | some v => v | none => .it .i64 0) = D.it .i64 (bd l n) := (bad_all l).2 n
def tk (d : Dk) : Dk := ⟨d.nx + 1, d.safe, d.wait, d.log, d.ep⟩
theorem it_nx {d : Dk} : ∀ {i : Nat}, (∀ j, j < i → nextW (some (itD d j)) ≠ none) → (itD d i).nx = d.nx + (i : Nat)
 | 0, _ => by show d.nx = d.nx + ((0 : Nat) : Int); omega
 | i + 1, h => by
  have ih := it_nx (d := d) (i := i) fun j hj => h j (by omega)
  show (stepD (itD d i)).nx = _
  unfold stepD
  cases hw : nextW (some (itD d i)) with
  | none => exact absurd hw (h i (by omega))
  | some w =>
   show (itD d i).nx + 1 = _
   rw [ih]; omega
theorem first_bad (bad : List Int) (n : Int) (i : Nat) : (∀ j : Nat, j < i → n + (j : Nat) ∉ bad) ∨ ∃ J : Nat, J < i ∧ n + (J : Nat) ∈ bad ∧ ∀ j : Nat, j < J → n + (j : Nat) ∉ bad := by
 induction i with
 | zero => exact .inl fun j hj => by omega
 | succ i ih =>
  rcases ih with h | ⟨J, h1, h2, h3⟩
  ·by_cases hi : n + (i : Nat) ∈ bad
   ·exact .inr ⟨i, by omega, hi, h⟩
   ·refine .inl fun j hj => ?_
    by_cases hji : j = i
    ·rw [hji]; exact hi
    ·exact h j (by omega)
  ·exact .inr ⟨J, by omega, h2, h3⟩
end Go.Proofs.YthknbpijaoljgaaGreatDoor
namespace Go.Proofs.YthknbpijaoljgaaGreatDoor
open Go.Sy
def dObs (b : Bool) (bad : List Int) (d : Dk) : List (Nat × Ob) := [(0, .cells 6 [.mp 3, .d (.it .i64 d.nx), .d (.fs 32 (d.safe.map encS)), .ts 36 (d.wait.map encW) 1, .ts 38 d.log 2, .d (.it .i64 d.ep)]), (1, .tail 38 true), (2, .tail 80 true), (3, .mp b false [.it .i64 0] (badM bad))]
theorem dk_eq {q r u : Nat} {a b c e s : List (List D)} {x y p : Int} (h3 : x = y) (h1 : a = b) (h2 : c = e) : Ob.cells 6 [.mp u, .d (.it .i64 x), .d (.fs 32 s), .ts 36 a q, .ts 38 c r, .d (.it .i64 p)] = Ob.cells 6 [.mp u, .d (.it .i64 y), .d (.fs 32 s), .ts 36 b q, .ts 38 e r, .d (.it .i64 p)] := by rw [h1, h2, h3]
set_option maxHeartbeats 8000000 in
theorem writeB_ok (b : Bool) (bad : List Int) (d : Dk) (a : Int) (s : List UInt8) (hs : s.length = 32) (k i : Int) (hn : 0 ≤ d.nx ∧ d.nx ≤ 1000000) (hw : d.wait.length ≤ 1000000) (hlg : d.log.length ≤ 1000000) (ha : 0 ≤ a ∧ a < d.safe.length) :
  FnH Tryz.prog 34 [.ptr 0 0, .d (.it .i64 a), .dg 32 (encS s), .dg 2 [.it .i64 k, .it .i64 i]] (dObs b bad d) 4 [0] (.d (.it .i64 (if d.nx ∈ bad then 3 else 0))) (dObs b bad (if d.nx ∈ bad then tk d else wrD d ⟨a, s, k, i, 0⟩)) 4 := by
 obtain ⟨g, rfl⟩ := is32 hs
 have hl1 : (d.safe.map encS).length = d.safe.length := List.length_map ..
 have hl2 : (d.wait.map encW).length = d.wait.length := List.length_map ..
 have hne : (d.safe.map encS).isEmpty = false := by
  cases h : d.safe with
  | nil => rw [h] at ha; simp at ha; omega
  | cons => rfl
 by_cases hbad : d.nx ∈ bad
 ·rw [if_pos hbad, if_pos hbad]
  have hb1 : bd bad d.nx = 1 := if_pos hbad
  refine FnH.intro ti_ok Tryz.func34 rfl Tryz.ntmps34 Tryz.call34 rfl rfl rfl (Nat.le_refl _) rfl rfl rfl rfl rfl (fun T => ?_)
  (repeat' ((conv=>whnf);first|with_reducible refine gA ?_|with_reducible refine AtA.mk' ?_ | ((with_reducible refine opX_id ?_); refine OpX.lookup (kx := .it .i64 d.nx) rfl rfl Tryz.underlying100 Tryz.underlying3 rfl (fun w => Tryz.zeroValue3 w) (fun F => .it _ _) rfl rfl rfl rfl (bad_get bad d.nx) ?_) | ((with_reducible refine callE_id ?_); refine CallE.inl ?_) | ((with_reducible refine callI_id ?_); first | with_reducible refine CallI.inl ti_ok i45 rfl ?_ | with_reducible refine CallI.inl ti_ok i76 rfl ?_ | with_reducible refine CallI.inl ti_ok i75 rfl ?_ | with_reducible refine CallI.inl ti_ok i77 rfl ?_) | ((with_reducible refine drawS_id ?_); first | refine draw_newB ti_ok mixed (by decide +kernel) ?_ | refine draw_hoist ti_ok mixed 0 (by decide +kernel) ?_)|(with_reducible first|refine gB ?_|refine gZ (fun x hx hu=>?_)|refine gY (fun x hx=>?_)|refine gE ?_|refine Both.mk ?_ ?_|refine gS (fun h=>?_) (fun h=>?_)|refine Spl.nt ?_|refine Spl.mk (fun h=>?_) (fun h=>?_))))
  all_goals first | (exfalso; omega) | skip
  refine finH_now rfl (And.intro (dk_eq rfl rfl rfl) (And.intro rfl (And.intro rfl (And.intro rfl trivial)))) (And.intro rfl (And.intro rfl trivial))
 ·rw [if_neg hbad, if_neg hbad]
  have hb1 : bd bad d.nx = 0 := if_neg hbad
  refine FnH.intro ti_ok Tryz.func34 rfl Tryz.ntmps34 Tryz.call34 rfl rfl rfl (Nat.le_refl _) rfl rfl rfl rfl rfl (fun T => ?_)
  (repeat' ((conv=>whnf);first|with_reducible refine gA ?_|with_reducible refine AtA.mk' ?_ | ((with_reducible refine opX_id ?_); refine OpX.lookup (kx := .it .i64 d.nx) rfl rfl Tryz.underlying100 Tryz.underlying3 rfl (fun w => Tryz.zeroValue3 w) (fun F => .it _ _) rfl rfl rfl rfl (bad_get bad d.nx) ?_) | ((with_reducible refine callE_id ?_); refine CallE.inl ?_) | ((with_reducible refine callI_id ?_); first | with_reducible refine CallI.inl ti_ok i45 rfl ?_ | with_reducible refine CallI.inl ti_ok i76 rfl ?_ | with_reducible refine CallI.inl ti_ok i75 rfl ?_ | with_reducible refine CallI.inl ti_ok i77 rfl ?_) | ((with_reducible refine drawS_id ?_); first | refine draw_newB ti_ok mixed (by decide +kernel) ?_ | refine draw_hoist ti_ok mixed 0 (by decide +kernel) ?_)|(with_reducible first|refine gB ?_|refine gZ (fun x hx hu=>?_)|refine gY (fun x hx=>?_)|refine gE ?_|refine Both.mk ?_ ?_|refine gS (fun h=>?_) (fun h=>?_)|refine Spl.nt ?_|refine Spl.mk (fun h=>?_) (fun h=>?_))))
  all_goals first | (exfalso; omega) | skip
  refine finH_now rfl (And.intro (dk_eq rfl ?_ rfl) (And.intro rfl (And.intro rfl (And.intro rfl trivial)))) (And.intro rfl (And.intro rfl trivial))
  show _ = (d.wait ++ [_]).map encW
  rw [List.map_append]; rfl
end Go.Proofs.YthknbpijaoljgaaGreatDoor
namespace Go.Proofs.YthknbpijaoljgaaGreatDoor
open Go.Sy
def nextV (o : Option Wr) : AV := match o with
 | none => .tup [.dg 36 (encW w0), .d (.bl false)]
 | some w => .tup [.dg 36 (encW w), .d (.bl true)]
theorem it_len (d : Dk) : ∀ j, (itD d j).wait.length ≤ d.wait.length + j ∧ (itD d j).log.length ≤ d.log.length + j ∧ d.nx ≤ (itD d j).nx ∧ (itD d j).nx ≤ d.nx + (j : Nat)
 | 0 => by show d.wait.length ≤ _ ∧ d.log.length ≤ _ ∧ d.nx ≤ d.nx ∧ d.nx ≤ d.nx + ((0 : Nat) : Int); omega
 | j + 1 => by
  have h := it_len d j
  show (stepD (itD d j)).wait.length ≤ _ ∧ (stepD (itD d j)).log.length ≤ _ ∧ d.nx ≤ (stepD (itD d j)).nx ∧ (stepD (itD d j)).nx ≤ _
  unfold stepD
  cases nextW (some (itD d j)) with
  | none => dsimp only; omega
  | some w =>
   show ((itD d j).wait ++ [_]).length ≤ _ ∧ ((itD d j).log ++ [_]).length ≤ _ ∧ d.nx ≤ (itD d j).nx + 1 ∧ (itD d j).nx + 1 ≤ _
   rw [List.length_append, List.length_append, List.length_singleton, List.length_singleton]
   omega
def mdA (b : Bool) (bad : List Int) (F : Func) (T0 : Nat) (D : Dk) (j : Nat) : S := ⟨[(0, .yld 13), (1, .ptr 11 0)], [(13, rgL 12 F), (12, .frame 29 [(1, .ptr 6 0), (2, .ptr 7 0), (3, .ptr 8 0), (4, .ptr 9 0)]), (11, .cells 1 [.ptr 0 0]), (9, .cells 1 [.d (.it .i64 (j : Nat))]), (8, .cells 1 [.d (.it .i64 0)]), (7, .cells 1 [.d (.it .i64 0)]), (6, .cells 1 [.ptr 0 0]),
 (0, .cells 6 [.mp 3, .d (.it .i64 D.nx), .d (.fs 32 (D.safe.map encS)), .ts 36 (D.wait.map encW) 1, .ts 38 D.log 2, .d (.it .i64 D.ep)]), (1, .tail 38 true), (2, .tail 80 true), (3, .mp b false [.it .i64 0] (badM bad)), (4, .frame 5 [(0, .ptr 0 0)]), (5, .tag 0 T0)], 14⟩
theorem dkOK_of {d : Dk} (h : Mnt d) (hl : d.wait.length ≤ 100000) : DkOK (some d) := ⟨h.s, h.w, by rw [h.n]; exact Nat.le_refl _, hl⟩
def nwD (d : Dk) (j : Nat) : Wr := (nextW (some (itD d j))).getD w0
theorem sec_eq {s : List UInt8} (h : s.length = 32) : s = sec32 fun q => s.getD q 0 := by
 refine List.ext_getElem (by rw [h]; rfl) fun i h1 h2 => ?_
 have h3 : sec32 (fun i => s.getD i 0) = (List.range 32).map (fun i => s.getD i 0) := rfl
 simp only [h3, List.getElem_map, List.getElem_range]
 rw [List.getD_eq_getElem?_getD, List.getElem?_eq_getElem h1]; rfl
theorem next_at {d : Dk} (h : Mnt d) {i j : Nat} (hlt : j < i) (hj : ∀ j, j < i → nextW (some (itD d j)) ≠ none) (hnext : ∀ d : Dk, DkOK (some d) → FnC Tryz.prog 11 [.d (.fp 6 (encDk d))] (nextV (nextW (some d)))) (hl : (itD d j).wait.length ≤ 100000) :
  FnC Tryz.prog 11 [.d (.fp 6 (encDk (itD d j)))] (.tup [.dg 36 (encW ⟨(nwD d j).a, sec32 fun q => (nwD d j).s.getD q 0, (nwD d j).k, (nwD d j).i, (nwD d j).e⟩), .d (.bl true)]) ∧ (0 ≤ (nwD d j).a ∧ (nwD d j).a < (itD d j).safe.length) ∧ wrD (itD d j) ⟨(nwD d j).a, sec32 fun q => (nwD d j).s.getD q 0, (nwD d j).k, (nwD d j).i, 0⟩ = itD d (j + 1) := by
 have hM := it_mnt h j
 have hN := hnext _ (dkOK_of hM hl)
 have hne := hj j hlt
 have hst : itD d (j + 1) = stepD (itD d j) := rfl
 unfold stepD at hst
 unfold nwD
 cases hw : nextW (some (itD d j)) with
 | none => exact absurd hw hne
 | some w =>
  rw [hw] at hN hst
  obtain ⟨_, _, h1, h2, h3⟩ := step_mnt hM hw
  have hs := sec_eq h3
  simp only [Option.getD_some]
  rw [← hs]
  exact ⟨hN, ⟨by omega, by rw [hM.n]; exact h2⟩, by rw [hst]; rfl⟩
def mdEnd (bad : List Int) (d : Dk) (i : Nat) (e : Bool) : Prop := if e = true then nextW (some (itD d i)) ≠ none ∧ d.nx + (i : Nat) ∈ bad else nextW (some (itD d i)) = none
def mdRes (e : Bool) (d : Dk) : Dk := bif e then tk d else d
set_option maxHeartbeats 16000000 in
theorem mendB_ok (hnext : ∀ d : Dk, DkOK (some d) → FnC Tryz.prog 11 [.d (.fp 6 (encDk d))] (nextV (nextW (some d)))) (hmnt : ∀ d : Dk, Mnt d → d.wait.length ≤ 100000 → FnC Tryz.prog 46 [.d (.fp 6 (encDk d))] (.d (.bl true))) (b : Bool) (bad : List Int) (d : Dk) (h : Mnt d) (hb : d.wait.length ≤ 1000 ∧ d.log.length ≤ 1000 ∧ 0 ≤ d.nx ∧ d.nx ≤ 1000) (i : Nat) (h88 : i ≤ 88) (e : Bool) (hi : mdEnd bad d i e) (hj : ∀ j, j < i → nextW (some (itD d j)) ≠ none) (hg : ∀ j : Nat, j < i → d.nx + (j : Nat) ∉ bad) :
  FnH Tryz.prog 15 [.ptr 0 0] (dObs b bad d) 4 [0] (.tup [.d (.it .i64 (i : Nat)), .d (.it .i64 (bif e then 3 else 0))]) (dObs b bad (mdRes e (itD d i))) 4 := by
 have hm := hmnt d h (by omega)
 refine FnH.intro ti_ok Tryz.func15 rfl Tryz.ntmps15 Tryz.call15 rfl rfl rfl (Nat.le_refl _) rfl rfl rfl rfl rfl (fun T => ?_)
 (repeat' ((conv=>whnf);first|with_reducible refine gA ?_|((with_reducible refine callE_id ?_); refine CallE.inl ?_) | ((with_reducible refine callI_id ?_); first | with_reducible refine CallI.inl ti_ok i47 rfl ?_ | refine CallI.byR (CallR.mk ⟨[.d (.fp 6 (encDk d))], _, And.intro ⟨6, _, by with_unfolding_all exact rfl, Nat.le_refl _, rfl, rfl⟩ trivial, hm, rfl, ?_⟩))|(with_reducible first|refine gB ?_|refine gZ (fun x hx hu=>?_)|refine gY (fun x hx=>?_)|refine gE ?_|refine Both.mk ?_ ?_|refine gS (fun h=>?_) (fun h=>?_)|refine Spl.nt ?_|refine Spl.mk (fun h=>?_) (fun h=>?_))))
 refine RangeS.intro ti_ok i96 rfl rfl ?_
 (repeat' ((conv=>whnf);first|with_reducible refine gA ?_|(with_reducible first|refine gB ?_|refine gZ (fun x hx hu=>?_)|refine gY (fun x hx=>?_)|refine gE ?_|refine Both.mk ?_ ?_|refine gS (fun h=>?_) (fun h=>?_)|refine Spl.nt ?_|refine Spl.mk (fun h=>?_) (fun h=>?_))))
 conv => whnf
 refine LoopS.wk (τ := mdA b bad Tryz.f15 (T 0) d 0) (Wk.enF (And.intro rfl (And.intro rfl trivial)) (by (repeat (first | exact trivial | refine And.intro (obw_eq rfl (by with_unfolding_all exact rfl)) ?_ | refine And.intro (obw_fr (by with_unfolding_all exact rfl) (by (repeat (first | exact trivial | refine And.intro (by with_unfolding_all exact rfl) ?_)))) ?_))) rfl) ?_
 refine loop_ruleW ti_ok (fun j : Nat => j ≤ i) (fun j => mdA b bad Tryz.f15 (T 0) (itD d j) j) (fun j => i - j) 0 (Nat.zero_le _) (Wk.en ⟨And.intro rfl (And.intro rfl trivial), (by (repeat (first | exact trivial | refine And.intro rfl ?_))), rfl⟩) ?_
 intro j hji
 have hM := it_mnt h j
 have hlen := it_len d j
 have hnx := it_nx (d := d) (i := j) fun q hq => hj q (by omega)
 by_cases hlt : j < i
 ·have hr := next_at h hlt hj hnext (by omega)
  have hN := hr.1
  have hD := hr.2.2
  have hW := writeB_ok b bad (itD d j) (nwD d j).a (sec32 fun q => (nwD d j).s.getD q 0) rfl (nwD d j).k (nwD d j).i ⟨by omega, by omega⟩ (by omega) (by omega) hr.2.1
  rw [if_neg (by rw [hnx]; exact hg j hlt), if_neg (by rw [hnx]; exact hg j hlt), hD] at hW
  (repeat' ((conv=>whnf);first|with_reducible refine gA ?_|with_reducible refine AtA.mk' ?_ | ((with_reducible refine callI_id ?_); first | refine CallI.byR (CallR.mk ⟨[.d (.fp 6 (encDk (itD d j)))], _, And.intro ⟨6, _, by with_unfolding_all exact rfl, Nat.le_refl _, rfl, rfl⟩ trivial, hN, by with_unfolding_all exact rfl, ?_⟩) | refine CallI.byH hW [0, 1, 2, 3] (by with_unfolding_all exact rfl) ⟨rfl, by decide, by with_unfolding_all exact rfl⟩ (And.intro rfl (And.intro rfl (And.intro rfl (And.intro rfl trivial)))) rfl rfl ?_) | with_reducible refine YieldI.intro ti_ok (by with_unfolding_all exact rfl) (by with_unfolding_all exact rfl) (by with_unfolding_all exact rfl) ?_|(with_reducible first|refine gB ?_|refine gZ (fun x hx hu=>?_)|refine gY (fun x hx=>?_)|refine gE ?_|refine Both.mk ?_ ?_|refine gS (fun h=>?_) (fun h=>?_)|refine Spl.nt ?_|refine Spl.mk (fun h=>?_) (fun h=>?_))))
  refine ⟨j + 1, hlt, by first | omega | (dsimp only; omega), Wk.enF (And.intro rfl (And.intro rfl trivial)) (by (repeat (first | exact trivial | refine And.intro (obw_eq rfl (by with_unfolding_all exact rfl)) ?_ | refine And.intro (obw_fr (by with_unfolding_all exact rfl) (by (repeat (first | exact trivial | refine And.intro (by with_unfolding_all exact rfl) ?_)))) ?_))) rfl⟩
 ·have hje : j = i := by omega
  subst hje
  cases e with
  | false =>
   have hN := hnext (itD d j) (dkOK_of hM (by omega))
   have hi : nextW (some (itD d j)) = none := hi
   rw [hi] at hN
   (repeat' ((conv=>whnf);first|with_reducible refine gA ?_|((with_reducible refine callI_id ?_); refine CallI.byR (CallR.mk ⟨[.d (.fp 6 (encDk (itD d j)))], _, And.intro ⟨6, _, by with_unfolding_all exact rfl, Nat.le_refl _, rfl, rfl⟩ trivial, hN, rfl, ?_⟩))|(with_reducible first|refine gB ?_|refine gZ (fun x hx hu=>?_)|refine gY (fun x hx=>?_)|refine gE ?_|refine Both.mk ?_ ?_|refine gS (fun h=>?_) (fun h=>?_)|refine Spl.nt ?_|refine Spl.mk (fun h=>?_) (fun h=>?_))))
   exact finH_now rfl (And.intro rfl (And.intro rfl (And.intro rfl (And.intro rfl trivial)))) (And.intro rfl (And.intro rfl trivial))
  | true =>
   have hi : nextW (some (itD d j)) ≠ none ∧ d.nx + (j : Nat) ∈ bad := hi
   have hr := next_at (i := j + 1) (j := j) h (by omega) (fun q hq => by
    rcases Nat.lt_or_ge q j with hq2 | hq2
    ·exact hj q hq2
    ·rw [show q = j by omega]; exact hi.1) hnext (by omega)
   have hN := hr.1
   have hW := writeB_ok b bad (itD d j) (nwD d j).a (sec32 fun q => (nwD d j).s.getD q 0) rfl (nwD d j).k (nwD d j).i ⟨by omega, by omega⟩ (by omega) (by omega) hr.2.1
   rw [if_pos (by rw [hnx]; exact hi.2), if_pos (by rw [hnx]; exact hi.2)] at hW
   (repeat' ((conv=>whnf);first|with_reducible refine gA ?_|with_reducible refine AtA.mk' ?_ | ((with_reducible refine callI_id ?_); first | refine CallI.byR (CallR.mk ⟨[.d (.fp 6 (encDk (itD d j)))], _, And.intro ⟨6, _, by with_unfolding_all exact rfl, Nat.le_refl _, rfl, rfl⟩ trivial, hN, by with_unfolding_all exact rfl, ?_⟩) | refine CallI.byH hW [0, 1, 2, 3] (by with_unfolding_all exact rfl) ⟨rfl, by decide, by with_unfolding_all exact rfl⟩ (And.intro rfl (And.intro rfl (And.intro rfl (And.intro rfl trivial)))) rfl rfl ?_) | with_reducible refine YieldI.intro ti_ok (by with_unfolding_all exact rfl) (by with_unfolding_all exact rfl) (by with_unfolding_all exact rfl) ?_|(with_reducible first|refine gB ?_|refine gZ (fun x hx hu=>?_)|refine gY (fun x hx=>?_)|refine gE ?_|refine Both.mk ?_ ?_|refine gS (fun h=>?_) (fun h=>?_)|refine Spl.nt ?_|refine Spl.mk (fun h=>?_) (fun h=>?_))))
   exact finH_now rfl (And.intro rfl (And.intro rfl (And.intro rfl (And.intro rfl trivial)))) (And.intro rfl (And.intro rfl trivial))
end Go.Proofs.YthknbpijaoljgaaGreatDoor
namespace Go.Proofs.YthknbpijaoljgaaGreatDoor
open Go.Sy
def dObsN (a b c e : Nat) (q : Bool) (bad : List Int) (d : Dk) : List (Nat × Ob) := [(a, .cells 6 [.mp e, .d (.it .i64 d.nx), .d (.fs 32 (d.safe.map encS)), .ts 36 (d.wait.map encW) b, .ts 38 d.log c, .d (.it .i64 d.ep)]), (b, .tail 38 true), (c, .tail 80 true), (e, .mp q false [.it .i64 0] (badM bad))]
def dskD (m : List (List UInt8)) (ws : List Wr) : Dk := ⟨ws.length, m, wts m.length ws, (wts m.length ws).map encEv, 0⟩
def dA2 (m : List (List UInt8)) (ws : List Wr) (i : Nat) : S := ⟨[(0, .d (encM m)), (1, .d (.fs 36 (ws.map encW))), (5, .ptr 8 0), (7, .d (.it .i64 (i : Nat)))],
 [(8, .cells 6 [.d (.ot (.map none)), .d (.it .i64 (i : Nat)), .d (.fs 32 (m.map encS)), .ts 36 ((wtsI m ws i).map encW) 9, .ts 38 ((wtsI m ws i).map encEv) 10, .d (.it .i64 0)]), (9, .tail 38 true), (10, .tail 80 true), (0, .frame 1 [])], 11⟩
set_option maxHeartbeats 8000000 in
theorem diskH_ok (m : List (List UInt8)) (hm : ImOK m) (ws : List Wr) (hw : WsOK ws) (hwl : ws.length ≤ 1000) (h : 1 ≤ m.length ∧ m.length ≤ 65) : FnH Tryz.prog 7 [.d (encM m), .d (.fs 36 (ws.map encW))] [] 0 [] (.ptr 8 0) (dObsN 8 9 10 11 false [] (dskD m ws)) 12 := by
 have hml' : (m.map encS).length = m.length := List.length_map ..
 have hwl' : (ws.map encW).length = ws.length := List.length_map ..
 have hne : (m.map encS).isEmpty = false := by
  cases m with
  | nil => simp at h
  | cons => rfl
 refine FnH.intro ti_ok Tryz.func7 rfl Tryz.ntmps7 Tryz.call7 rfl rfl rfl (Nat.zero_le _) rfl rfl rfl rfl rfl (fun T => ?_)
 (repeat' ((conv=>whnf);first|with_reducible refine gA ?_|((with_reducible refine callE_id ?_); refine CallE.inl ?_) | with_reducible refine CallI.inl ti_ok i30 rfl ?_ | with_reducible refine CallI.inl ti_ok i71 rfl ?_ | with_reducible refine CallI.inl ti_ok i66 rfl ?_ | with_reducible refine Spl.no hne ?_|(with_reducible first|refine gB ?_|refine gZ (fun x hx hu=>?_)|refine gY (fun x hx=>?_)|refine gE ?_|refine Both.mk ?_ ?_|refine gS (fun h=>?_) (fun h=>?_)|refine Spl.nt ?_|refine Spl.mk (fun h=>?_) (fun h=>?_))))
 refine loop_ruleW ti_ok (fun i : Nat => i ≤ ws.length) (dA2 m ws) (fun i => ws.length - i) 0 (Nat.zero_le _) ?_ ?_
 ·refine Wk.trans (Wk.nlTs 8 3 6 36 38 (by with_unfolding_all exact rfl) (by with_unfolding_all exact rfl)) ?_
  refine Wk.trans (Wk.nlTs 8 4 6 38 80 (by with_unfolding_all exact rfl) (by with_unfolding_all exact rfl)) ?_
  exact Wk.vwL (And.intro (Vw.eq rfl) (And.intro (Vw.eq rfl) (And.intro (Vw.eq rfl) (And.intro (Vw.eq rfl) trivial))))
    (And.intro (VwO.cells _ _ _ (.cons (Vw.eq rfl) rfl (.cons (Vw.eq rfl) rfl (.cons (Vw.ts' rfl) rfl (.cons (Vw.eq rfl) rfl (.cons (Vw.eq rfl) rfl (.cons (Vw.eq rfl) rfl .nil))))))) (And.intro (VwO.same _) (And.intro (VwO.same _) (And.intro (VwO.same _) trivial)))) rfl
 intro i hi
 rcases Nat.lt_or_ge i ws.length with hil | hil
 ·obtain ⟨x, hx⟩ := lt_get hil
  have hxs := hw x (List.mem_of_getElem? hx)
  have hpos : m.length ≠ 0 := by omega
  have hwi : ((wtsI m ws i).map encW).length ≤ 1000 := by
   rw [List.length_map]
   exact Nat.le_trans (wtsI_len m ws i) hwl
  have hwe : ((wtsI m ws i).map encEv).length ≤ 1000 := by
   rw [List.length_map]
   exact Nat.le_trans (wtsI_len m ws i) hwl
  have hwj : (wtsI m ws i).length ≤ 1000 := Nat.le_trans (wtsI_len m ws i) hwl
  have hstep := wtsI_step m hx
  obtain ⟨xa, xs, xk, xi, xe⟩ := x
  obtain ⟨g, rfl⟩ := is32 hxs
  (repeat' ((conv=>whnf);first|with_reducible refine gA ?_|with_reducible refine at_hm hx ?_ | with_reducible refine nilBad ?_ | with_reducible refine AtA.mk' ?_ | ((with_reducible refine callE_id ?_); refine CallE.inl ?_) | ((with_reducible refine callI_id ?_); first | with_reducible refine CallI.inl ti_ok i34 rfl ?_ | with_reducible refine CallI.inl ti_ok i45 rfl ?_ | with_reducible refine CallI.inl ti_ok i76 rfl ?_ | with_reducible refine CallI.inl ti_ok i75 rfl ?_ | with_reducible refine CallI.inl ti_ok i77 rfl ?_) | ((with_reducible refine drawS_id ?_); first | refine draw_newB ti_ok mixed (by decide +kernel) ?_ | refine draw_hoist ti_ok mixed 0 (by decide +kernel) ?_)|(with_reducible first|refine gB ?_|refine gZ (fun x hx hu=>?_)|refine gY (fun x hx=>?_)|refine gE ?_|refine Both.mk ?_ ?_|refine gS (fun h=>?_) (fun h=>?_)|refine Spl.nt ?_|refine Spl.mk (fun h=>?_) (fun h=>?_))))
  all_goals refine ⟨i + 1, by omega, by dsimp only; omega, Wk.vwL (And.intro (Vw.eq rfl) (And.intro (Vw.eq rfl) (And.intro (Vw.eq rfl) (And.intro (Vw.eq (it_eq (by omega))) trivial)))) (And.intro (VwO.cells _ _ _ (.cons (Vw.eq rfl) rfl (.cons (Vw.eq (it_eq (by omega))) rfl (.cons (Vw.eq rfl) rfl (.cons (Vw.eq (ts_eq ?_)) rfl (.cons (Vw.eq (ts_eq ?_)) rfl (.cons (Vw.eq rfl) rfl .nil))))))) (And.intro (VwO.same _) (And.intro (VwO.same _) (And.intro (VwO.same _) trivial)))) rfl⟩
  all_goals first
   | (rw [hstep, if_pos (by dsimp only at *; omega), List.map_append]; rfl)
   | (rw [hstep, if_neg (by dsimp only at *; omega)])
 ·have hli : i = ws.length := by omega
  have hlast : wtsI m ws i = wts m.length ws := by unfold wtsI; rw [hli, List.take_length]
  (repeat' ((conv=>whnf);first|with_reducible refine gA ?_|(with_reducible first|refine gB ?_|refine gZ (fun x hx hu=>?_)|refine gY (fun x hx=>?_)|refine gE ?_|refine Both.mk ?_ ?_|refine gS (fun h=>?_) (fun h=>?_)|refine Spl.nt ?_|refine Spl.mk (fun h=>?_) (fun h=>?_))))
  refine ⟨⟨[(4, .ptr 8 0)], [(8, .cells 6 [.mp 11, .d (.it .i64 (i : Nat)), .d (.fs 32 (m.map encS)), .ts 36 ((wtsI m ws i).map encW) 9, .ts 38 ((wtsI m ws i).map encEv) 10, .d (.it .i64 0)]), (9, .tail 38 true), (10, .tail 80 true), (11, .mp false false [.it .i64 0] []), (0, .frame 1 [])], 12⟩,
   Wk.trans (Wk.nlMp (c := [.d (.ot (.map none)), .d (.it .i64 (i : Nat)), .d (.fs 32 (m.map encS)), .ts 36 ((wtsI m ws i).map encW) 9, .ts 38 ((wtsI m ws i).map encEv) 10, .d (.it .i64 0)]) 8 0 6 false [.it .i64 0] (by with_unfolding_all exact rfl) (by with_unfolding_all exact rfl)) (Wk.en ⟨And.intro rfl trivial, And.intro rfl (And.intro rfl (And.intro rfl (And.intro rfl (And.intro rfl trivial)))), rfl⟩), rfl, And.intro (dk_eq (by rw [hli]; rfl) (by rw [hlast]; rfl) (by rw [hlast]; rfl)) (And.intro rfl (And.intro rfl (And.intro rfl trivial))), And.intro rfl trivial⟩
end Go.Proofs.YthknbpijaoljgaaGreatDoor
namespace Go.Proofs.YthknbpijaoljgaaGreatDoor
open Go.Sy
theorem img_len (d : Dk) : (imgD (some d)).length = d.safe.length := by
 show ((List.range d.safe.length).map _).length = _
 rw [List.length_map, List.length_range]
theorem imS_img (d : Dk) (n : Nat) (h : n < d.safe.length) : imS (imgD (some d)) (n : Nat) = rdS (some d) (n : Nat) := by
 have h1 : (imgD (some d))[n]? = some (rdS (some d) (n : Nat)) := by
  show ((List.range d.safe.length).map fun k : Nat => rdS (some d) (k : Nat))[n]? = _
  rw [List.getElem?_map, List.getElem?_range h]; rfl
 unfold imS
 rw [List.getD_eq_getElem?_getD, show ((n : Nat) : Int).toNat = n from rfl, h1]; rfl
theorem mnt_to {d : Dk} (h : Mnt d) : mntP (imgD (some d)) := by
 have h0 := imS_img d 0 (by rw [h.n]; decide)
 have h1 := imS_img d 1 (by rw [h.n]; decide)
 refine ⟨by rw [img_len]; exact h.n, ?_, ?_, ?_⟩
 ·exact h0.trans h.f0
 ·rw [show imS (imgD (some d)) 1 = _ from h1]; exact h.f1
 ·rw [show imS (imgD (some d)) 1 = _ from h1]; exact h.f2
theorem mnt_of {d : Dk} (hd : DkOK (some d)) (h : mntP (imgD (some d))) : Mnt d := by
 have hn : d.safe.length = 65 := by rw [← img_len]; exact h.1
 have h0 := imS_img d 0 (by rw [hn]; decide)
 have h1 := imS_img d 1 (by rw [hn]; decide)
 refine ⟨hd.1, hd.2.1, hn, h0.symm.trans h.2.1, ?_, ?_⟩
 ·have := h.2.2.1
  rw [show imS (imgD (some d)) 1 = _ from h1] at this; exact this
 ·have := h.2.2.2
  rw [show imS (imgD (some d)) 1 = _ from h1] at this; exact this
theorem mntd_ok (d : Dk) (hd : DkOK (some d)) : FnC Tryz.prog 46 [.d (.fp 6 (encDk d))] (.d (.bl (decide (mntP (imgD (some d)))))) := mounted_ok (some d) hd
theorem mend_not (b : Bool) (bad : List Int) (d : Dk) (hd : DkOK (some d)) (h : ¬ mntP (imgD (some d))) : FnH Tryz.prog 15 [.ptr 0 0] (dObs b bad d) 4 [0] (.tup [.d (.it .i64 0), .d (.it .i64 8)]) (dObs b bad d) 4 := by
 have hm := mntd_ok d hd
 rw [decide_eq_false h] at hm
 refine FnH.intro ti_ok Tryz.func15 rfl Tryz.ntmps15 Tryz.call15 rfl rfl rfl (Nat.le_refl _) rfl rfl rfl rfl rfl (fun T => ?_)
 (repeat' ((conv=>whnf);first|with_reducible refine gA ?_|((with_reducible refine callE_id ?_); refine CallE.inl ?_) | ((with_reducible refine callI_id ?_); first | refine CallI.byR (CallR.mk ⟨[.d (.fp 6 (encDk d))], _, And.intro ⟨6, _, by with_unfolding_all exact rfl, Nat.le_refl _, rfl, rfl⟩ trivial, hm, rfl, ?_⟩))|(with_reducible first|refine gB ?_|refine gZ (fun x hx hu=>?_)|refine gY (fun x hx=>?_)|refine gE ?_|refine Both.mk ?_ ?_|refine gS (fun h=>?_) (fun h=>?_)|refine Spl.nt ?_|refine Spl.mk (fun h=>?_) (fun h=>?_))))
 exact finH_now rfl (And.intro rfl (And.intro rfl (And.intro rfl (And.intro rfl trivial)))) (And.intro rfl (And.intro rfl trivial))
theorem mend_nil : FnC Tryz.prog 15 [.d (.ot (.pointer none))] (.tup [.d (.it .i64 0), .d (.it .i64 8)]) := by
 have hm : FnC Tryz.prog 46 [.d (.ot (.pointer none))] (.d (.bl (decide (mntP (imgD none))))) := mounted_ok none trivial
 rw [decide_eq_false (by intro h; exact absurd h.1 (by decide))] at hm
 refine FnC.intro ti_ok Tryz.func15 rfl Tryz.ntmps15 Tryz.call15 rfl (Nat.le_of_ble_eq_true rfl) rfl ?_
 (repeat' ((conv=>whnf);first|with_reducible refine gA ?_|((with_reducible refine callE_id ?_); (refine CallE.con ⟨_, hm, ?_⟩))|(with_reducible first|refine gB ?_|refine gZ (fun x hx hu=>?_)|refine gY (fun x hx=>?_)|refine gE ?_|refine Both.mk ?_ ?_|refine gS (fun h=>?_) (fun h=>?_)|refine Spl.nt ?_|refine Spl.mk (fun h=>?_) (fun h=>?_))))
 rfl
end Go.Proofs.YthknbpijaoljgaaGreatDoor
namespace Go.Proofs.YthknbpijaoljgaaGreatDoor
open Go.Sy
set_option maxHeartbeats 8000000 in
theorem next38_ok (d : Dk) (hd : DkOK (some d)) : FnC Tryz.prog 11 [.d (.fp 6 (encDk d))] (nextV (nextW (some d))) := by
 have hc : FnC Tryz.prog 37 [.d (.fp 6 (encDk d))] (.d (.fs 2 ((probsD (some d)).map encP))) := check_ok (some d) hd
 cases hp : probsD (some d) with
 | nil =>
  rw [hp] at hc
  rw [probs_nil hp]
  refine FnC.intro ti_ok Tryz.func11 rfl Tryz.ntmps11 Tryz.call11 rfl (Nat.le_of_ble_eq_true rfl) rfl ?_
  (repeat' ((conv=>whnf);first|with_reducible refine gA ?_|((with_reducible refine callE_id ?_); (refine CallE.con ⟨_, hc, ?_⟩))|(with_reducible first|refine gB ?_|refine gZ (fun x hx hu=>?_)|refine gY (fun x hx=>?_)|refine gE ?_|refine Both.mk ?_ ?_|refine gS (fun h=>?_) (fun h=>?_)|refine Spl.nt ?_|refine Spl.mk (fun h=>?_) (fun h=>?_))))
  rfl
 | cons p t =>
  rw [hp] at hc
  rw [probs_cons hp]
  have hl : (List.map encP t).length = t.length := List.length_map ..
  rcases probs_head hp with ⟨kind, k, k1, k2, k3, rfl, hP⟩ | ⟨b, b1, b2, rfl, hb⟩
  ·have he := mentry_ok (some d) hd k k3
   rw [if_neg (show ¬ ((kind : Nat) : Int) = 6 by omega)]
   show FnC _ _ _ (.tup [.dg 36 (encW (entW (rdS (some d)) k)), .d (.bl true)])
   have hc : FnC Tryz.prog 37 [.d (.fp 6 (encDk d))] (.d (.fs 2 ([.it .i64 (kind : Nat), .it .i64 (k : Nat)] :: t.map encP))) := hc
   refine FnC.intro ti_ok Tryz.func11 rfl Tryz.ntmps11 Tryz.call11 rfl (Nat.le_of_ble_eq_true rfl) rfl ?_
   (repeat' ((conv=>whnf);first|with_reducible refine gA ?_|((with_reducible refine callE_id ?_); first | (refine CallE.con ⟨_, hc, ?_⟩) | (refine CallE.con ⟨_, he, ?_⟩))|(with_reducible first|refine gB ?_|refine gZ (fun x hx hu=>?_)|refine gY (fun x hx=>?_)|refine gE ?_|refine Both.mk ?_ ?_|refine gS (fun h=>?_) (fun h=>?_)|refine Spl.nt ?_|refine Spl.mk (fun h=>?_) (fun h=>?_))))
   rfl
  ·have he := cut38_ok (some d) hd ((b : Nat) : Int) ⟨by omega, by omega⟩
   rw [if_pos rfl]
   have hs := cutK_s (rdS (some d)) ((b : Nat) : Int) 16
   show FnC _ _ _ (.tup [.dg 36 (encW (cutK (rdS (some d)) ((b : Nat) : Int) 16)), .d (.bl true)])
   generalize cutK (rdS (some d)) ((b : Nat) : Int) 16 = w at *
   have hc : FnC Tryz.prog 37 [.d (.fp 6 (encDk d))] (.d (.fs 2 ([.it .i64 6, .it .i64 (b : Nat)] :: t.map encP))) := hc
   refine FnC.intro ti_ok Tryz.func11 rfl Tryz.ntmps11 Tryz.call11 rfl (Nat.le_of_ble_eq_true rfl) rfl ?_
   (repeat' ((conv=>whnf);first|with_reducible refine gA ?_|((with_reducible refine callE_id ?_); first | (refine CallE.con ⟨_, hc, ?_⟩) | (refine CallE.con ⟨_, he, ?_⟩))|(with_reducible first|refine gB ?_|refine gZ (fun x hx hu=>?_)|refine gY (fun x hx=>?_)|refine gE ?_|refine Both.mk ?_ ?_|refine gS (fun h=>?_) (fun h=>?_)|refine Spl.nt ?_|refine Spl.mk (fun h=>?_) (fun h=>?_))))
   conv => whnf
   generalize hv : ldA _ 0 _ = v
   have hv' : v = .dg 36 (encW w) := by
    rw [← hv]
    refine ldW36b hs ?_ rfl rfl
    refine Eq.trans (List.append_nil ([] ++ _)) ?_
    exact List.nil_append _
   rw [hv']
   rfl
end Go.Proofs.YthknbpijaoljgaaGreatDoor
namespace Go.Proofs.YthknbpijaoljgaaGreatDoor
open Go.Sy
theorem tagClone_ok : FnC Tryz.prog 52 [.d (.fs 2 [])] (.d (.fs 2 [])) := by
 refine FnC.intro ti_ok Tryz.func52 rfl Tryz.ntmps52 Tryz.call52 rfl (Nat.le_of_ble_eq_true rfl) rfl ?_
 (repeat' ((conv=>whnf);first|with_reducible refine gA ?_|(with_reducible first|refine gB ?_|refine gZ (fun x hx hu=>?_)|refine gY (fun x hx=>?_)|refine gE ?_|refine Both.mk ?_ ?_|refine gS (fun h=>?_) (fun h=>?_)|refine Spl.nt ?_|refine Spl.mk (fun h=>?_) (fun h=>?_))))
 all_goals rfl
def lgA (b : Bool) (bad : List Int) (d : Dk) (ws : List Wr) (T0 : Nat) (k : Nat) : S := ⟨[(3, .vx 38 9 0 ws.length), (13, .d (.it .i64 (ws.length : Nat))), (14, .d (.it .i64 (k : Nat)))], [(9, .vec 80 38 (ws.map encEv) false), (0, .cells 6 [.mp 3, .d (.it .i64 d.nx), .d (.fs 32 (d.safe.map encS)), .ts 36 (d.wait.map encW) 1, .ts 38 (ws.map encEv) 2, .d (.it .i64 d.ep)]), (1, .tail 38 true), (2, .tail 80 true), (3, .mp b false [.it .i64 0] (badM bad)), (4, .frame 5 [(0, .ptr 0 0)]), (5, .tag 0 T0)], 10⟩
theorem take_same {α : Type} {l : List α} {k : Nat} {c : α} (h : l[k]? = some c) : l.take k ++ [c] ++ l.drop (k + 1) = l := by
 obtain ⟨h1, h2⟩ := List.getElem?_eq_some_iff.1 h
 rw [List.append_assoc, List.singleton_append, ← h2, ← List.drop_eq_getElem_cons h1, List.take_append_drop]
set_option maxHeartbeats 8000000 in
theorem logH_ok (b : Bool) (bad : List Int) (d : Dk) (ws : List Wr) (hl : d.log = ws.map encEv) (hs : d.safe.length ≠ 0) (hlen : ws.length ≤ 10000) (hw0 : ws ≠ []) (hw : ∀ w ∈ ws, w.s.length = 32) : FnH Tryz.prog 19 [.ptr 0 0] (dObs b bad d) 4 [0] (.d (.fs 38 d.log)) (dObs b bad d) 4 := by
 have hn : FnC Tryz.prog 45 [.d (.fp 6 (encDk d))] (.d (.bl false)) := by
  have := none_ok (some d)
  rw [show noneB (some d) = false from decide_eq_false hs] at this
  exact this
 have ht := tagClone_ok
 have hne : (ws.map encEv).isEmpty = false := by
  cases ws with
  | nil => exact absurd rfl hw0
  | cons => rfl
 have hll : (ws.map encEv).length = ws.length := List.length_map ..
 have hd : dObs b bad d = [(0, .cells 6 [.mp 3, .d (.it .i64 d.nx), .d (.fs 32 (d.safe.map encS)), .ts 36 (d.wait.map encW) 1, .ts 38 (ws.map encEv) 2, .d (.it .i64 d.ep)]), (1, .tail 38 true), (2, .tail 80 true), (3, .mp b false [.it .i64 0] (badM bad))] := by rw [← hl]; rfl
 have he : .fp 6 (encDk d) = D.fp 6 [.an, .it .i64 d.nx, .fs 32 (d.safe.map encS), .fs 36 (d.wait.map encW), .fs 38 (ws.map encEv), .it .i64 d.ep] := by rw [← hl]; rfl
 rw [he] at hn
 rw [hd, hl]
 refine FnH.intro ti_ok Tryz.func19 rfl Tryz.ntmps19 Tryz.call19 rfl rfl rfl (Nat.le_refl _) rfl rfl rfl rfl rfl (fun T => ?_)
 (repeat' ((conv=>whnf);first|with_reducible refine gA ?_|((with_reducible refine callE_id ?_); first | (refine CallE.con ⟨_, ht, ?_⟩) | refine CallE.inl ?_) | ((with_reducible refine nils_id ?_); first | refine NilS.vec (And.intro rfl ?_) | refine NilS.vec ?_) | with_reducible refine Spl.no hne ?_ | ((with_reducible refine callI_id ?_); first | refine CallI.byR (CallR.mk ⟨[.d (.fp 6 _)], _, And.intro ⟨6, _, by with_unfolding_all exact rfl, Nat.le_refl _, rfl, rfl⟩ trivial, hn, rfl, ?_⟩) | with_reducible refine CallI.inl ti_ok i51 rfl ?_)|(with_reducible first|refine gB ?_|refine gZ (fun x hx hu=>?_)|refine gY (fun x hx=>?_)|refine gE ?_|refine Both.mk ?_ ?_|refine gS (fun h=>?_) (fun h=>?_)|refine Spl.nt ?_|refine Spl.mk (fun h=>?_) (fun h=>?_))))
 conv => whnf
 refine loop_rule ti_ok (fun k : Nat => k ≤ ws.length) (lgA b bad d ws (T 0)) (fun k => ws.length - k) 0 (Nat.zero_le _) ⟨And.intro (vx_eq hll) (And.intro (it_eq (by rw [hll])) (And.intro rfl trivial)), And.intro rfl (And.intro rfl (And.intro rfl (And.intro rfl (And.intro rfl (And.intro rfl (And.intro rfl trivial)))))), rfl⟩ ?_
 intro k hk
 by_cases hkl : k < ws.length
 ·obtain ⟨x, hx⟩ := lt_get hkl
  have hxs := hw x (List.mem_of_getElem? hx)
  obtain ⟨xa, xs, xk, xi, xe⟩ := x
  obtain ⟨g, rfl⟩ := is32 hxs
  have hxe : (ws.map encEv)[k]? = some (encEv ⟨xa, sec32 g, xk, xi, xe⟩) := by rw [List.getElem?_map, hx]; rfl
  have hsm := take_same hxe
  have hxe0 : (ws.map encEv)[0 + ((k : Nat) : Int).toNat]? = some (encEv ⟨xa, sec32 g, xk, xi, xe⟩) := by rw [Nat.zero_add]; exact hxe
  have hsm0 := take_same hxe0
  (repeat' ((conv=>whnf);first|with_reducible refine gA ?_|with_reducible refine AtA.mk' ?_ | refine at_some hxe ?_ | refine at_some hxe0 ?_ | ((with_reducible refine callE_id ?_); (refine CallE.con ⟨_, ht, ?_⟩)) | ((with_reducible refine opX_id ?_); refine OpX.storeF (es2 := ws.map encEv) ti_ok rfl rfl rfl (by with_unfolding_all exact rfl) (by with_unfolding_all exact rfl) (by with_unfolding_all exact rfl) (by with_unfolding_all exact rfl) rfl rfl rfl rfl hxe0 hsm0.symm ?_)|(with_reducible first|refine gB ?_|refine gZ (fun x hx hu=>?_)|refine gY (fun x hx=>?_)|refine gE ?_|refine Both.mk ?_ ?_|refine gS (fun h=>?_) (fun h=>?_)|refine Spl.nt ?_|refine Spl.mk (fun h=>?_) (fun h=>?_))))
  refine again (k + 1) hkl (by first | omega | (dsimp only; omega)) (And.intro rfl (And.intro rfl (And.intro (it_eq (by omega)) trivial))) (And.intro rfl (And.intro rfl (And.intro rfl (And.intro rfl (And.intro rfl (And.intro rfl (And.intro rfl trivial))))))) rfl
 ·have hke : k = ws.length := by omega
  (repeat' ((conv=>whnf);first|with_reducible refine gA ?_|(with_reducible first|refine gB ?_|refine gZ (fun x hx hu=>?_)|refine gY (fun x hx=>?_)|refine gE ?_|refine Both.mk ?_ ?_|refine gS (fun h=>?_) (fun h=>?_)|refine Spl.nt ?_|refine Spl.mk (fun h=>?_) (fun h=>?_))))
  refine ⟨⟨[(2, .d (.fs 38 (ws.map encEv)))], [(0, .cells 6 [.mp 3, .d (.it .i64 d.nx), .d (.fs 32 (d.safe.map encS)), .ts 36 (d.wait.map encW) 1, .ts 38 (ws.map encEv) 2, .d (.it .i64 d.ep)]), (1, .tail 38 true), (2, .tail 80 true), (3, .mp b false [.it .i64 0] (badM bad)), (4, .frame 5 [(0, .ptr 0 0)]), (5, .tag 0 (T 0))], 10⟩,
   Wk.frzL 9 80 38 (ws.map encEv) false (by with_unfolding_all exact rfl) (And.intro (Fz.vx 0 ws.length _ (by rw [hll]; omega) (by rw [List.drop_zero, List.take_of_length_le (by rw [hll]; exact Nat.le_refl _)])) trivial) (And.intro rfl (And.intro (FzO.same _) (And.intro rfl (And.intro (FzO.same _) (And.intro rfl (And.intro (FzO.same _) (And.intro rfl (And.intro (FzO.same _) (And.intro rfl (And.intro (FzO.same _) (And.intro rfl (And.intro (FzO.same _) trivial)))))))))))) rfl, rfl, And.intro rfl (And.intro rfl (And.intro rfl (And.intro rfl trivial))), And.intro rfl (And.intro rfl trivial)⟩
set_option maxHeartbeats 8000000 in
theorem logH_nil (b : Bool) (bad : List Int) (d : Dk) (hl : d.log = []) (hs : d.safe.length ≠ 0) : FnH Tryz.prog 19 [.ptr 0 0] (dObs b bad d) 4 [0] (.d (.fs 38 [])) (dObs b bad d) 4 := by
 have hn : FnC Tryz.prog 45 [.d (.fp 6 (encDk d))] (.d (.bl false)) := by
  have := none_ok (some d)
  rw [show noneB (some d) = false from decide_eq_false hs] at this
  exact this
 have hd : dObs b bad d = [(0, .cells 6 [.mp 3, .d (.it .i64 d.nx), .d (.fs 32 (d.safe.map encS)), .ts 36 (d.wait.map encW) 1, .ts 38 [] 2, .d (.it .i64 d.ep)]), (1, .tail 38 true), (2, .tail 80 true), (3, .mp b false [.it .i64 0] (badM bad))] := by rw [← hl]; rfl
 have he : .fp 6 (encDk d) = D.fp 6 [.an, .it .i64 d.nx, .fs 32 (d.safe.map encS), .fs 36 (d.wait.map encW), .fs 38 [], .it .i64 d.ep] := by rw [← hl]; rfl
 rw [he] at hn
 rw [hd]
 refine FnH.intro ti_ok Tryz.func19 rfl Tryz.ntmps19 Tryz.call19 rfl rfl rfl (Nat.le_refl _) rfl rfl rfl rfl rfl (fun T => ?_)
 (repeat' ((conv=>whnf);first|with_reducible refine gA ?_|((with_reducible refine callE_id ?_); refine CallE.inl ?_) | ((with_reducible refine callI_id ?_); first | refine CallI.byR (CallR.mk ⟨[.d (.fp 6 _)], _, And.intro ⟨6, _, by with_unfolding_all exact rfl, Nat.le_refl _, rfl, rfl⟩ trivial, hn, rfl, ?_⟩) | with_reducible refine CallI.inl ti_ok i51 rfl ?_) | with_reducible refine LoopS.unroll ti_ok 1 ?_|(with_reducible first|refine gB ?_|refine gZ (fun x hx hu=>?_)|refine gY (fun x hx=>?_)|refine gE ?_|refine Both.mk ?_ ?_|refine gS (fun h=>?_) (fun h=>?_)|refine Spl.nt ?_|refine Spl.mk (fun h=>?_) (fun h=>?_))))
 all_goals refine ⟨⟨[(2, .d (.fs 38 []))], [(0, .cells 6 [.mp 3, .d (.it .i64 d.nx), .d (.fs 32 (d.safe.map encS)), .ts 36 (d.wait.map encW) 1, .ts 38 [] 2, .d (.it .i64 d.ep)]), (1, .tail 38 true), (2, .tail 80 true), (3, .mp b false [.it .i64 0] (badM bad)), (4, .frame 5 [(0, .ptr 0 0)]), (5, .tag 0 (T 0))], 7⟩,
   Wk.vwL (And.intro (by first | exact Vw.ts' rfl | exact Vw.eq rfl | exact Vw.tg' rfl) trivial) (And.intro (VwO.same _) (And.intro (VwO.same _) (And.intro (VwO.same _) (And.intro (VwO.same _) (And.intro (VwO.same _) (And.intro (VwO.same _) trivial)))))) rfl, rfl, And.intro rfl (And.intro rfl (And.intro rfl (And.intro rfl trivial))), And.intro rfl (And.intro rfl trivial)⟩
end Go.Proofs.YthknbpijaoljgaaGreatDoor
namespace Go.Proofs.YthknbpijaoljgaaGreatDoor
open Go.Sy
def kW38 : List Wr := [⟨19, k1S, 0, 0, 0⟩]
theorem kw38_ok : WsOK kW38 := by
 intro w hw
 simp only [kW38, List.mem_cons, List.not_mem_nil, or_false] at hw
 rcases hw with rfl; rfl
def d38 : Dk := dskD emptyM kW38
def w38 : Wr := ⟨19, zeroS, 3, 0, 0⟩
theorem kn1 : nextW (some d38) = some w38 := by kernel_rfl
theorem kn2 : nextW (some (itD d38 1)) = none := by kernel_rfl
theorem km38 : mntP (imgD (some d38)) := by decide +kernel
theorem num38_ok (n : Int) : FnC Tryz.prog 17 [.d (.it .i64 n)] (.d (.it .i64 n)) := by
 refine FnC.intro ti_ok Tryz.func17 rfl Tryz.ntmps17 Tryz.call17 rfl (Nat.le_of_ble_eq_true rfl) rfl ?_
 (repeat' ((conv=>whnf);first|with_reducible refine gA ?_|(with_reducible first|refine gB ?_|refine gZ (fun x hx hu=>?_)|refine gY (fun x hx=>?_)|refine gE ?_|refine Both.mk ?_ ?_|refine gS (fun h=>?_) (fun h=>?_)|refine Spl.nt ?_|refine Spl.mk (fun h=>?_) (fun h=>?_))))
 rfl
theorem hmnt38 (d : Dk) (h : Mnt d) (hl : d.wait.length ≤ 100000) : FnC Tryz.prog 46 [.d (.fp 6 (encDk d))] (.d (.bl true)) := by
 have := mntd_ok d (dkOK_of h hl)
 rw [decide_eq_true (mnt_to h)] at this
 exact this
set_option maxHeartbeats 16000000 in
theorem knows38_ok : FnC Tryz.prog 6 [] (.d (.bl true)) := by
 have ke := empty_ok
 have hOK : DkOK (some d38) := by
  have := dsk_OK (m := emptyM) (ws := kW38) em_ok kw38_ok (by decide)
  rw [show dskOf emptyM kW38 = some _ from if_pos (by decide)] at this
  exact this
 have hM := mnt_of hOK km38
 have hd : FnH Tryz.prog 7 [.d (encM emptyM), .d (.fs 36 (kW38.map encW))] [] 0 [] (.ptr 8 0) (dObsN 8 9 10 11 false [] d38) 12 := diskH_ok emptyM em_ok kW38 kw38_ok (by decide) (by decide)
 have hx := mendB_ok next38_ok hmnt38 false [] d38 hM ⟨by decide, by decide, by decide, by decide⟩ 1 (by decide) false kn2 (fun j hj => by
  have : j = 0 := by omega
  subst this
  show nextW (some d38) ≠ none
  rw [kn1]; simp) (fun j hj => by simp)
 have hN1 := next38_ok d38 hOK
 rw [kn1] at hN1
 have hN1 : FnC Tryz.prog 11 [.d (.fp 6 (encDk d38))] (.tup [.dg 36 (encW w38), .d (.bl true)]) := hN1
 have hM1 := it_mnt hM 1
 have hl1 := it_len d38 1
 have hw1 : d38.wait.length ≤ 1000 := by decide
 have hN2 := next38_ok (itD d38 1) (dkOK_of hM1 (by omega))
 rw [kn2] at hN2
 have hN2 : FnC Tryz.prog 11 [.d (.fp 6 (encDk (itD d38 1)))] (.tup [.dg 36 (encW w0), .d (.bl false)]) := hN2
 have hnl := mend_nil
 have n0 := num38_ok 0
 have n8 := num38_ok 8
 have hx : FnH Tryz.prog 15 [.ptr 0 0] (dObs false [] d38) 4 [0] (.tup [.d (.it .i64 (1 : Nat)), .d (.it .i64 0)]) (dObs false [] (itD d38 1)) 4 := hx
 generalize itD d38 1 = D at *
 generalize d38 = d at *
 refine FnC.intro ti_ok Tryz.func6 rfl Tryz.ntmps6 Tryz.call6 rfl (Nat.le_of_ble_eq_true rfl) rfl ?_
 (repeat' ((conv=>whnf);first|with_reducible refine gA ?_|((with_reducible refine callE_id ?_); first | (refine CallE.con ⟨_, ke, ?_⟩) | (refine CallE.con ⟨_, n0, ?_⟩) | (refine CallE.con ⟨_, n8, ?_⟩) | (refine CallE.con ⟨_, hnl, ?_⟩) | refine CallE.inl ?_) | ((with_reducible refine callI_id ?_); first | refine CallI.byHp hd [] (And.intro (.inl rfl) (And.intro (.inr (by with_unfolding_all exact rfl)) trivial)) ⟨rfl, by decide, rfl⟩ trivial rfl rfl ?_ | refine CallI.byR (CallR.mk ⟨[.d (.fp 6 (encDk d))], _, And.intro ⟨6, _, by with_unfolding_all exact rfl, Nat.le_refl _, rfl, rfl⟩ trivial, hN1, by with_unfolding_all exact rfl, ?_⟩) | refine CallI.byH hx [8, 9, 10, 11] (by with_unfolding_all exact rfl) ⟨rfl, by decide, by with_unfolding_all exact rfl⟩ (And.intro rfl (And.intro rfl (And.intro rfl (And.intro rfl trivial)))) rfl rfl ?_)|(with_reducible first|refine gB ?_|refine gZ (fun x hx hu=>?_)|refine gY (fun x hx=>?_)|refine gE ?_|refine Both.mk ?_ ?_|refine gS (fun h=>?_) (fun h=>?_)|refine Spl.nt ?_|refine Spl.mk (fun h=>?_) (fun h=>?_))))
 (repeat' ((conv=>whnf);first|with_reducible refine gA ?_|((with_reducible refine callE_id ?_); first | (refine CallE.con ⟨_, n0, ?_⟩) | (refine CallE.con ⟨_, n8, ?_⟩) | (refine CallE.con ⟨_, hnl, ?_⟩) | refine CallE.inl ?_) | ((with_reducible refine callI_id ?_); first | refine CallI.byR (CallR.mk ⟨[.d (.fp 6 (encDk D))], _, And.intro ⟨6, _, by with_unfolding_all exact rfl, Nat.le_refl _, rfl, rfl⟩ trivial, hN2, by with_unfolding_all exact rfl, ?_⟩))|(with_reducible first|refine gB ?_|refine gZ (fun x hx hu=>?_)|refine gY (fun x hx=>?_)|refine gE ?_|refine Both.mk ?_ ?_|refine gS (fun h=>?_) (fun h=>?_)|refine Spl.nt ?_|refine Spl.mk (fun h=>?_) (fun h=>?_))))
 rfl
end Go.Proofs.YthknbpijaoljgaaGreatDoor
namespace Go.Proofs.YthknbpijaoljgaaGreatDoor
open Go.Sy
def flA (T0 : Nat) (bad : List Int) (d : Dk) (j : Nat) : S := ⟨[(0, .ptr 0 0), (13, .d (.fs 1 (vI bad))), (14, .d (.it .i64 (bad.length : Nat))), (15, .d (.it .i64 (j : Nat)))], [(6, .mp true false [.it .i64 0] (badM (bad.take j))), (0, .cells 6 [.mp 6, .d (.it .i64 0), .d (.fs 32 (d.safe.map encS)), .ts 36 (d.wait.map encW) 1, .ts 38 d.log 2, .d (.it .i64 d.ep)]), (1, .tail 38 true), (2, .tail 80 true), (4, .frame 5 [(0, .ptr 0 0)]), (5, .tag 0 T0)], 7⟩
theorem mp_eq {b ag : Bool} {tp : List D} {l l' : List (List D × D)} (h : l = l') : Ob.mp b ag tp l = Ob.mp b ag tp l' := by rw [h]
set_option maxHeartbeats 8000000 in
theorem failH_ok (b : Bool) (bad0 bad : List Int) (d : Dk) (hs : d.safe.length ≠ 0) (hl : bad.length ≤ 1000000) : FnH Tryz.prog 14 [.ptr 0 0, .d (.fs 1 (vI bad))] (dObs b bad0 d) 4 [0] (.tup []) [(0, .cells 6 [.mp 6, .d (.it .i64 0), .d (.fs 32 (d.safe.map encS)), .ts 36 (d.wait.map encW) 1, .ts 38 d.log 2, .d (.it .i64 d.ep)]), (1, .tail 38 true), (2, .tail 80 true), (6, .mp true false [.it .i64 0] (badM bad))] 7 := by
 have hn : FnC Tryz.prog 45 [.d (.fp 6 (encDk d))] (.d (.bl false)) := by
  have := none_ok (some d)
  rw [show noneB (some d) = false from decide_eq_false hs] at this
  exact this
 have hv : (vI bad).length = bad.length := List.length_map ..
 refine FnH.intro ti_ok Tryz.func14 rfl Tryz.ntmps14 Tryz.call14 rfl rfl rfl (by decide) rfl rfl rfl rfl rfl (fun T => ?_)
 (repeat' ((conv=>whnf);first|with_reducible refine gA ?_|((with_reducible refine callE_id ?_); refine CallE.inl ?_) | ((with_reducible refine callI_id ?_); refine CallI.byR (CallR.mk ⟨[.d (.fp 6 (encDk d))], _, And.intro ⟨6, _, by with_unfolding_all exact rfl, Nat.le_refl _, rfl, rfl⟩ trivial, hn, rfl, ?_⟩)) | ((with_reducible refine opX_id ?_); refine OpX.makeMap false [.it .i64 0] rfl rfl ?_)|(with_reducible first|refine gB ?_|refine gZ (fun x hx hu=>?_)|refine gY (fun x hx=>?_)|refine gE ?_|refine Both.mk ?_ ?_|refine gS (fun h=>?_) (fun h=>?_)|refine Spl.nt ?_|refine Spl.mk (fun h=>?_) (fun h=>?_))))
 conv => whnf
 refine loop_rule ti_ok (fun j : Nat => j ≤ bad.length) (flA (T 0) bad d) (fun j => bad.length - j) 0 (Nat.zero_le _) ⟨And.intro rfl (And.intro rfl (And.intro (it_eq (by rw [hv])) (And.intro rfl trivial))), And.intro rfl (And.intro rfl (And.intro rfl (And.intro rfl (And.intro rfl (And.intro rfl trivial))))), rfl⟩ ?_
 intro j hj
 by_cases hjl : j < bad.length
 ·obtain ⟨x, hx⟩ := lt_get hjl
  unfold flA vI
  unfold vI at hv
  (repeat' ((conv=>whnf);first|with_reducible refine gA ?_|((with_reducible refine opX_id ?_); refine OpX.mapUpdate (kx := .it .i64 x) rfl rfl Tryz.underlying100 Tryz.underlying3 rfl rfl rfl rfl rfl rfl rfl ?_)|(with_reducible first|refine gB ?_|refine gZ (fun x hx hu=>?_)|refine gY (fun x hx=>?_)|refine gE ?_|refine Both.mk ?_ ?_|refine gS (fun h=>?_) (fun h=>?_)|refine Spl.nt ?_|refine Spl.mk (fun h=>?_) (fun h=>?_))))
  refine again (j + 1) hjl (by first | omega | (dsimp only; omega)) (And.intro rfl (And.intro rfl (And.intro rfl (And.intro (it_eq (by omega)) trivial)))) (And.intro (mp_eq (by rw [take_snoc hx, badM_snoc]; rfl)) (And.intro rfl (And.intro rfl (And.intro rfl (And.intro rfl (And.intro rfl trivial)))))) rfl
 ·have hje : j = bad.length := by omega
  (repeat' ((conv=>whnf);first|with_reducible refine gA ?_|(with_reducible first|refine gB ?_|refine gZ (fun x hx hu=>?_)|refine gY (fun x hx=>?_)|refine gE ?_|refine Both.mk ?_ ?_|refine gS (fun h=>?_) (fun h=>?_)|refine Spl.nt ?_|refine Spl.mk (fun h=>?_) (fun h=>?_))))
  subst hje
  conv => whnf
  refine ⟨_, ⟨fun κ g a w hst => ⟨g, hst⟩⟩, rfl, And.intro rfl (And.intro rfl (And.intro rfl (And.intro (mp_eq (by rw [List.take_length])) trivial))), And.intro rfl (And.intro rfl trivial)⟩
end Go.Proofs.YthknbpijaoljgaaGreatDoor
namespace Go.Proofs.YthknbpijaoljgaaGreatDoor
open Go.Sy
def rCells (bad : List Int) (d : Dk) : List D := [.fs 32 (d.safe.map encS), .fs 36 (d.wait.map encW), .it .i64 d.ep, .fs 38 d.log, .fs 1 (vI bad), .it .i64 d.nx]
def rObs (bad : List Int) (d : Dk) : List (Nat × Ob) := [(0, .cells 6 [.d (.fs 32 (d.safe.map encS)), .d (.fs 36 (d.wait.map encW)), .d (.it .i64 d.ep), .d (.fs 38 d.log), .d (.fs 1 (vI bad)), .d (.it .i64 d.nx)])]
theorem rk_eq {a b c e s l : List (List D)} {x y p : Int} (h3 : x = y) (h1 : a = b) (h2 : c = e) : Ob.cells 6 [.d (.fs 32 s), .d (.fs 36 a), .d (.it .i64 p), .d (.fs 38 c), .d (.fs 1 l), .d (.it .i64 x)] = Ob.cells 6 [.d (.fs 32 s), .d (.fs 36 b), .d (.it .i64 p), .d (.fs 38 e), .d (.fs 1 l), .d (.it .i64 y)] := by rw [h1, h2, h3]
set_option maxHeartbeats 4000000 in
theorem refIn_ok (l : List Int) (n : Int) (hl : l.length ≤ 1000000) : FnC Tryz.prog 78 [.d (.fs 1 (vI l)), .d (.it .i64 n)] (.d (.bl (decide (n ∈ l)))) := by
 have hv : (vI l).length = l.length := List.length_map ..
 refine FnC.intro ti_ok Tryz.func78 rfl Tryz.ntmps78 Tryz.call78 rfl (Nat.le_of_ble_eq_true rfl) rfl ?_
 (repeat' ((conv=>whnf);first|with_reducible refine gA ?_|(with_reducible first|refine gB ?_|refine gZ (fun x hx hu=>?_)|refine gY (fun x hx=>?_)|refine gE ?_|refine Both.mk ?_ ?_|refine gS (fun h=>?_) (fun h=>?_)|refine Spl.nt ?_|refine Spl.mk (fun h=>?_) (fun h=>?_))))
 conv => whnf
 refine loop_rule ti_ok (fun k : Nat => k ≤ l.length ∧ n ∉ l.take k) (fun k => ⟨[(0, .d (.fs 1 (vI l))), (1, .d (.it .i64 n)), (5, .d (.it .i64 (k : Nat)))], [], 0⟩) (fun k => l.length - k) 0 ⟨Nat.zero_le _, by simp⟩ ⟨And.intro rfl (And.intro rfl (And.intro rfl trivial)), trivial, rfl⟩ ?_
 intro k ⟨hk, hn⟩
 by_cases hkl : k < l.length
 ·obtain ⟨x, hx⟩ := lt_get hkl
  unfold vI at hv ⊢
  (repeat' ((conv=>whnf);first|with_reducible refine gA ?_|(with_reducible first|refine gB ?_|refine gZ (fun x hx hu=>?_)|refine gY (fun x hx=>?_)|refine gE ?_|refine Both.mk ?_ ?_|refine gS (fun h=>?_) (fun h=>?_)|refine Spl.nt ?_|refine Spl.mk (fun h=>?_) (fun h=>?_))))
  ·exact bl_tt (by rw [show n = x by omega]; exact List.mem_of_getElem? hx)
  ·refine again (k + 1) ⟨hkl, ?_⟩ (by dsimp only; omega) (And.intro rfl (And.intro rfl (And.intro (it_eq (by omega)) trivial))) trivial rfl
   rw [take_snoc hx, List.mem_append, List.mem_singleton]
   rintro (h' | h')
   ·exact hn h'
   ·omega
 ·(repeat' ((conv=>whnf);first|with_reducible refine gA ?_|(with_reducible first|refine gB ?_|refine gZ (fun x hx hu=>?_)|refine gY (fun x hx=>?_)|refine gE ?_|refine Both.mk ?_ ?_|refine gS (fun h=>?_) (fun h=>?_)|refine Spl.nt ?_|refine Spl.mk (fun h=>?_) (fun h=>?_))))
  refine bl_ff ?_
  rw [show l = l.take k by rw [List.take_of_length_le (by omega)]]
  exact hn
set_option maxHeartbeats 8000000 in
theorem rWrite_no (bad : List Int) (d : Dk) (a : Int) (s : List UInt8) (hs : s.length = 32) (k i : Int) (hn : 0 ≤ d.nx ∧ d.nx ≤ 1000000) (hb : bad.length ≤ 1000000) (h : ¬ (0 ≤ a ∧ a < d.safe.length) ∨ d.nx ∈ bad) :
  FnH Tryz.prog 9 [.ptr 0 0, .d (.it .i64 a), .dg 32 (encS s), .dg 2 [.it .i64 k, .it .i64 i]] (rObs bad d) 1 [0] (.d (.it .i64 (if ¬ (0 ≤ a ∧ a < d.safe.length) then 1 else 3))) (rObs bad (tk d)) 1 := by
 have hin : FnC Tryz.prog 78 [.d (.fs 1 (vI bad)), .d (.it .i64 (d.nx + 1 - 1))] (.d (.bl (decide (d.nx ∈ bad)))) := by
  have := refIn_ok bad (d.nx + 1 - 1) hb
  rwa [show decide (d.nx + 1 - 1 ∈ bad) = decide (d.nx ∈ bad) by rw [Int.add_sub_cancel]] at this
 have hl1 : (d.safe.map encS).length = d.safe.length := List.length_map ..
 by_cases h1 : ¬ (0 ≤ a ∧ a < d.safe.length)
 ·rw [if_pos h1]
  obtain ⟨g, rfl⟩ := is32 hs
  refine FnH.intro ti_ok Tryz.func9 rfl Tryz.ntmps9 Tryz.call9 rfl rfl rfl (Nat.le_refl _) rfl rfl rfl rfl rfl (fun T => ?_)
  (repeat' ((conv=>whnf);first|with_reducible refine gA ?_|((with_reducible refine callE_id ?_); first | (refine CallE.con ⟨_, hin, ?_⟩) | refine CallE.inl ?_) | ((with_reducible refine callI_id ?_); with_reducible refine CallI.inl ti_ok i36 rfl ?_)|(with_reducible first|refine gB ?_|refine gZ (fun x hx hu=>?_)|refine gY (fun x hx=>?_)|refine gE ?_|refine Both.mk ?_ ?_|refine gS (fun h=>?_) (fun h=>?_)|refine Spl.nt ?_|refine Spl.mk (fun h=>?_) (fun h=>?_))))
  all_goals first | (exfalso; omega) | skip
  all_goals refine finH_now rfl (And.intro (rk_eq rfl rfl rfl) trivial) (And.intro rfl (And.intro rfl trivial))
 ·have hb1 := h.resolve_left h1
  rw [if_neg h1]
  rw [decide_eq_true hb1] at hin
  obtain ⟨g, rfl⟩ := is32 hs
  refine FnH.intro ti_ok Tryz.func9 rfl Tryz.ntmps9 Tryz.call9 rfl rfl rfl (Nat.le_refl _) rfl rfl rfl rfl rfl (fun T => ?_)
  (repeat' ((conv=>whnf);first|with_reducible refine gA ?_|((with_reducible refine callE_id ?_); first | (refine CallE.con ⟨_, hin, ?_⟩) | refine CallE.inl ?_) | ((with_reducible refine callI_id ?_); with_reducible refine CallI.inl ti_ok i36 rfl ?_)|(with_reducible first|refine gB ?_|refine gZ (fun x hx hu=>?_)|refine gY (fun x hx=>?_)|refine gE ?_|refine Both.mk ?_ ?_|refine gS (fun h=>?_) (fun h=>?_)|refine Spl.nt ?_|refine Spl.mk (fun h=>?_) (fun h=>?_))))
  all_goals first | (exfalso; omega) | skip
  all_goals refine finH_now rfl (And.intro (rk_eq rfl rfl rfl) trivial) (And.intro rfl (And.intro rfl trivial))
end Go.Proofs.YthknbpijaoljgaaGreatDoor
namespace Go.Proofs.YthknbpijaoljgaaGreatDoor
open Go.Sy
def InR (d : Dk) : Prop := ∀ w ∈ d.wait, 0 ≤ w.a ∧ w.a < d.safe.length
def nwA (bad : List Int) (d : Dk) (i : Nat) : S := ⟨[(0, .d (.fp 6 (rCells bad d))), (3, .vx 32 1 0 d.safe.length), (4, .d (.it .i64 (i : Nat)))], [(1, .vec 34 32 ((putWs d.safe (d.wait.take i)).map encS) false)], 2⟩
set_option maxHeartbeats 4000000 in
theorem rNow_ok (bad : List Int) (d : Dk) (hd : DkOK (some d)) (hR : InR d) : FnC Tryz.prog 49 [.d (.fp 6 (rCells bad d))] (.d (encM (putWs d.safe d.wait))) := by
 have hml' : (d.safe.map encS).length = d.safe.length := List.length_map ..
 have hwl' : (d.wait.map encW).length = d.wait.length := List.length_map ..
 have hml := hd.2.2.1
 have hwl := hd.2.2.2
 refine FnC.intro ti_ok Tryz.func49 rfl Tryz.ntmps49 Tryz.call49 rfl (Nat.le_of_ble_eq_true rfl) rfl ?_
 (repeat' ((conv=>whnf);first|with_reducible refine gA ?_|((with_reducible refine nils_id ?_); first | refine NilS.vec ⟨rfl, ?_⟩ | refine NilS.ts ?_)|(with_reducible first|refine gB ?_|refine gZ (fun x hx hu=>?_)|refine gY (fun x hx=>?_)|refine gE ?_|refine Both.mk ?_ ?_|refine gS (fun h=>?_) (fun h=>?_)|refine Spl.nt ?_|refine Spl.mk (fun h=>?_) (fun h=>?_))))
 refine loop_rule ti_ok (fun i : Nat => i ≤ d.wait.length) (nwA bad d) (fun i => d.wait.length - i) 0 (Nat.zero_le _) ⟨And.intro rfl (And.intro (vx_eq hml') (And.intro rfl trivial)), And.intro rfl trivial, rfl⟩ ?_
 intro i hi
 have hpl := putWs_len d.safe (d.wait.take i)
 have hpl' : ((putWs d.safe (d.wait.take i)).map encS).length = d.safe.length := by rw [List.length_map, hpl]
 rcases Nat.lt_or_ge i d.wait.length with hil | hil
 ·obtain ⟨x, hx⟩ := lt_get hil
  have hxs := hd.2.1 x (List.mem_of_getElem? hx)
  have hxr := hR x (List.mem_of_getElem? hx)
  have hstep := putWs_snoc d.safe hx
  obtain ⟨xa, xs, xk, xi, xe⟩ := x
  dsimp only at hxr
  obtain ⟨g, rfl⟩ := is32 hxs
  (repeat' ((conv=>whnf);first|with_reducible refine gA ?_|with_reducible refine at_hm hx ?_|(with_reducible first|refine gB ?_|refine gZ (fun x hx hu=>?_)|refine gY (fun x hx=>?_)|refine gE ?_|refine Both.mk ?_ ?_|refine gS (fun h=>?_) (fun h=>?_)|refine Spl.nt ?_|refine Spl.mk (fun h=>?_) (fun h=>?_))))
  all_goals (refine again (i + 1) (by omega) (by dsimp only; omega) (And.intro rfl (And.intro rfl (And.intro (it_eq (by omega)) trivial))) (And.intro (vec_eq ?_) trivial) rfl)
  all_goals (rw [hstep]; unfold putW; rw [if_pos (by dsimp only at *; omega)]; refine set_enc (s := sec32 g) (k := xa.toNat) (Nat.zero_add _) ?_; rw [hpl]; dsimp only at *; omega)
 ·have hie : i = d.wait.length := by omega
  have hlast : putWs d.safe (d.wait.take i) = putWs d.safe d.wait := by rw [hie, List.take_length]
  rw [hlast] at hpl'
  unfold nwA
  rw [hlast]
  (repeat' ((conv=>whnf);first|with_reducible refine gA ?_|(with_reducible first|refine gB ?_|refine gZ (fun x hx hu=>?_)|refine gY (fun x hx=>?_)|refine gE ?_|refine Both.mk ?_ ?_|refine gS (fun h=>?_) (fun h=>?_)|refine Spl.nt ?_|refine Spl.mk (fun h=>?_) (fun h=>?_))))
  refine fs_eq ?_
  rw [List.drop_zero, List.take_of_length_le (by rw [hpl']; exact Nat.le_refl _)]
theorem lastAt_nil (n : Int) : lastAt n [] = none := rfl
theorem putWs_snoc' (m : List (List UInt8)) (ws : List Wr) (x : Wr) : putWs m (ws ++ [x]) = putW (putWs m ws) x := by unfold putWs; rw [List.foldl_append]; rfl
theorem rd_put (d : Dk) (n : Int) (h0 : 0 ≤ n) : rdS (some d) n = imS (putWs d.safe d.wait) n := by
 obtain ⟨nx, safe, wait, log, ep⟩ := d
 have key : ∀ l : List Wr, rdS (some ⟨nx, safe, l, log, ep⟩) n = imS (putWs safe l) n := by
  intro l
  have hrec : ∀ k, ∀ l : List Wr, l.length = k → rdS (some ⟨nx, safe, l, log, ep⟩) n = imS (putWs safe l) n := by
   intro k
   induction k with
   | zero =>
    intro l hl
    have : l = [] := List.length_eq_zero_iff.1 hl
    subst this
    unfold rdS imS
    dsimp only
    rw [lastAt_nil]
    show (if _ then safe.getD n.toNat zeroS else zeroS) = safe.getD n.toNat zeroS
    split
    ·rfl
    ·rename_i hc
     rw [List.getD_eq_getElem?_getD, List.getElem?_eq_none (by omega)]; rfl
   | succ k ih =>
    intro l hl
    have hne : l ≠ [] := fun h => by rw [h] at hl; simp at hl
    obtain ⟨t, x, rfl⟩ : ∃ t x, l = t ++ [x] := ⟨l.dropLast, l.getLast hne, (List.dropLast_concat_getLast hne).symm⟩
    have iht := ih t (by simpa using hl)
    rw [putWs_snoc']
    have h2 := putWs_len safe t
    unfold rdS at iht ⊢
    dsimp only at iht ⊢
    rw [lastAt_snoc]
    unfold putW imS
    by_cases hx : x.a = n
    ·subst hx
     by_cases hr : 0 ≤ x.a ∧ x.a < safe.length
     ·rw [if_pos hr, if_pos rfl, if_pos (show 0 ≤ x.a ∧ x.a < ((putWs safe t).length : Int) by rw [h2]; exact hr)]
      show x.s = ((putWs safe t).set x.a.toNat x.s).getD x.a.toNat zeroS
      rw [List.getD_eq_getElem?_getD, List.getElem?_set_self (by rw [h2]; omega)]; rfl
     ·rw [if_neg hr, if_neg (show ¬ (0 ≤ x.a ∧ x.a < ((putWs safe t).length : Int)) by rw [h2]; exact hr), List.getD_eq_getElem?_getD, List.getElem?_eq_none (by rw [h2]; omega)]; rfl
    ·rw [if_neg hx]
     unfold imS at iht
     rw [iht]
     split
     ·rw [List.getD_eq_getElem?_getD, List.getD_eq_getElem?_getD, List.getElem?_set_ne (by omega)]
     ·rfl
  exact hrec l.length l rfl
 exact key wait
theorem has_put (d : Dk) (n : Int) (h0 : 0 ≤ n) : hasP (some d) n ↔ n < (putWs d.safe d.wait).length := by
 rw [putWs_len]
 show 0 ≤ n ∧ n < d.safe.length ↔ _
 omega
set_option maxHeartbeats 4000000 in
theorem rMount_ok (bad : List Int) (d : Dk) (hd : DkOK (some d)) (hR : InR d) (h0 : d.safe.length ≠ 0) : FnC Tryz.prog 48 [.d (.fp 6 (rCells bad d))] (.d (.it .i64 (if mntP (putWs d.safe d.wait) then 0 else 8))) := by
 have hn := rNow_ok bad d hd hR
 have hm := refMounts_ok (putWs d.safe d.wait) (putWs_ok hd.1 hd.2.1)
 have hml' : (d.safe.map encS).length = d.safe.length := List.length_map ..
 by_cases hM : mntP (putWs d.safe d.wait)
 all_goals first | rw [decide_eq_true hM] at hm | rw [decide_eq_false hM] at hm
 all_goals first | rw [if_pos hM] | rw [if_neg hM]
 all_goals (
  refine FnC.intro ti_ok Tryz.func48 rfl Tryz.ntmps48 Tryz.call48 rfl (Nat.le_of_ble_eq_true rfl) rfl ?_
  (repeat' ((conv=>whnf);first|with_reducible refine gA ?_|((with_reducible refine callE_id ?_); first | (refine CallE.con ⟨_, hn, ?_⟩) | (refine CallE.con ⟨_, hm, ?_⟩))|(with_reducible first|refine gB ?_|refine gZ (fun x hx hu=>?_)|refine gY (fun x hx=>?_)|refine gE ?_|refine Both.mk ?_ ?_|refine gS (fun h=>?_) (fun h=>?_)|refine Spl.nt ?_|refine Spl.mk (fun h=>?_) (fun h=>?_))))
  all_goals first | rfl | (exfalso; omega))
theorem rMount_nil : FnC Tryz.prog 48 [.d (.ot (.pointer none))] (.d (.it .i64 1)) := by
 refine FnC.intro ti_ok Tryz.func48 rfl Tryz.ntmps48 Tryz.call48 rfl (Nat.le_of_ble_eq_true rfl) rfl ?_
 (repeat' ((conv=>whnf);first|with_reducible refine gA ?_|(with_reducible first|refine gB ?_|refine gZ (fun x hx hu=>?_)|refine gY (fun x hx=>?_)|refine gE ?_|refine Both.mk ?_ ?_|refine gS (fun h=>?_) (fun h=>?_)|refine Spl.nt ?_|refine Spl.mk (fun h=>?_) (fun h=>?_))))
 rfl
def nwH (bad : List Int) (T0 : Nat) (d : Dk) (i : Nat) : S := ⟨[(0, .ptr 0 0), (3, .vx 32 4 0 d.safe.length), (4, .d (.it .i64 (i : Nat)))], [(4, .vec 34 32 ((putWs d.safe (d.wait.take i)).map encS) false), (0, .cells 6 [.d (.fs 32 (d.safe.map encS)), .d (.fs 36 (d.wait.map encW)), .d (.it .i64 d.ep), .d (.fs 38 d.log), .d (.fs 1 (vI bad)), .d (.it .i64 d.nx)]), (1, .frame 2 [(0, .ptr 0 0)]), (2, .tag 0 T0)], 5⟩
set_option maxHeartbeats 4000000 in
theorem rNowH_ok (bad : List Int) (d : Dk) (hd : DkOK (some d)) (hR : InR d) : FnH Tryz.prog 49 [.ptr 0 0] (rObs bad d) 1 [0] (.d (encM (putWs d.safe d.wait))) (rObs bad d) 1 := by
 have hml' : (d.safe.map encS).length = d.safe.length := List.length_map ..
 have hwl' : (d.wait.map encW).length = d.wait.length := List.length_map ..
 have hml := hd.2.2.1
 have hwl := hd.2.2.2
 refine FnH.intro ti_ok Tryz.func49 rfl Tryz.ntmps49 Tryz.call49 rfl rfl rfl (Nat.le_refl _) rfl rfl rfl rfl rfl (fun T => ?_)
 (repeat' ((conv=>whnf);first|with_reducible refine gA ?_|((with_reducible refine nils_id ?_); first | refine NilS.vec ⟨rfl, ?_⟩ | refine NilS.ts ?_)|(with_reducible first|refine gB ?_|refine gZ (fun x hx hu=>?_)|refine gY (fun x hx=>?_)|refine gE ?_|refine Both.mk ?_ ?_|refine gS (fun h=>?_) (fun h=>?_)|refine Spl.nt ?_|refine Spl.mk (fun h=>?_) (fun h=>?_))))
 refine loop_rule ti_ok (fun i : Nat => i ≤ d.wait.length) (nwH bad (T 0) d) (fun i => d.wait.length - i) 0 (Nat.zero_le _) ⟨And.intro rfl (And.intro (vx_eq hml') (And.intro rfl trivial)), And.intro rfl (And.intro rfl (And.intro rfl (And.intro rfl trivial))), rfl⟩ ?_
 intro i hi
 have hpl := putWs_len d.safe (d.wait.take i)
 have hpl' : ((putWs d.safe (d.wait.take i)).map encS).length = d.safe.length := by rw [List.length_map, hpl]
 rcases Nat.lt_or_ge i d.wait.length with hil | hil
 ·obtain ⟨x, hx⟩ := lt_get hil
  have hxs := hd.2.1 x (List.mem_of_getElem? hx)
  have hxr := hR x (List.mem_of_getElem? hx)
  have hstep := putWs_snoc d.safe hx
  obtain ⟨xa, xs, xk, xi, xe⟩ := x
  dsimp only at hxr
  obtain ⟨g, rfl⟩ := is32 hxs
  (repeat' ((conv=>whnf);first|with_reducible refine gA ?_|with_reducible refine at_hm hx ?_|(with_reducible first|refine gB ?_|refine gZ (fun x hx hu=>?_)|refine gY (fun x hx=>?_)|refine gE ?_|refine Both.mk ?_ ?_|refine gS (fun h=>?_) (fun h=>?_)|refine Spl.nt ?_|refine Spl.mk (fun h=>?_) (fun h=>?_))))
  all_goals (refine again (i + 1) (by omega) (by dsimp only; omega) (And.intro rfl (And.intro rfl (And.intro (it_eq (by omega)) trivial))) (And.intro (vec_eq ?_) (And.intro rfl (And.intro rfl (And.intro rfl trivial)))) rfl)
  all_goals (rw [hstep]; unfold putW; rw [if_pos (by dsimp only at *; omega)]; refine set_enc (s := sec32 g) (k := xa.toNat) (Nat.zero_add _) ?_; rw [hpl]; dsimp only at *; omega)
 ·have hie : i = d.wait.length := by omega
  have hlast : putWs d.safe (d.wait.take i) = putWs d.safe d.wait := by rw [hie, List.take_length]
  rw [hlast] at hpl'
  unfold nwH
  rw [hlast]
  (repeat' ((conv=>whnf);first|with_reducible refine gA ?_|(with_reducible first|refine gB ?_|refine gZ (fun x hx hu=>?_)|refine gY (fun x hx=>?_)|refine gE ?_|refine Both.mk ?_ ?_|refine gS (fun h=>?_) (fun h=>?_)|refine Spl.nt ?_|refine Spl.mk (fun h=>?_) (fun h=>?_))))
  refine ⟨⟨[(2, .d (.fs 32 ((putWs d.safe d.wait).map encS)))], [(0, .cells 6 [.d (.fs 32 (d.safe.map encS)), .d (.fs 36 (d.wait.map encW)), .d (.it .i64 d.ep), .d (.fs 38 d.log), .d (.fs 1 (vI bad)), .d (.it .i64 d.nx)]), (1, .frame 2 [(0, .ptr 0 0)]), (2, .tag 0 (T 0))], 5⟩,
   Wk.frzL 4 34 32 ((putWs d.safe d.wait).map encS) false (by with_unfolding_all exact rfl) (And.intro (Fz.vx 0 d.safe.length _ (by rw [hpl']; omega) (by rw [List.drop_zero, List.take_of_length_le (by rw [hpl']; exact Nat.le_refl _)])) trivial) (And.intro rfl (And.intro (FzO.same _) (And.intro rfl (And.intro (FzO.same _) (And.intro rfl (And.intro (FzO.same _) trivial)))))) rfl, rfl, And.intro rfl trivial, And.intro rfl (And.intro rfl trivial)⟩
end Go.Proofs.YthknbpijaoljgaaGreatDoor
namespace Go.Proofs.YthknbpijaoljgaaGreatDoor
open Go.Sy
theorem gB0 {p q : Prop} (k : q) (h : q → p := by intro k; with_reducible first | exact g_i64 k | exact g_u64 k | exact g_u8 k | exact g_iq k | exact g_uq k | exact g_rem k | exact LetN.mk k | exact g_hm k | exact g_hb k | exact g_lit k) : p := h k
def y7 (bad : List Int) (d : Dk) (w : Wr) (T0 : Nat) : S := ⟨[(0, .ptr 0 0), (10, .ptr 6 0)], [(0, .cells 6 [.d (.fs 32 (d.safe.map encS)), .d (.fs 36 ((d.wait.map encW) ++ [encW w])), .d (.it .i64 d.ep), .d (.fs 38 d.log), .d (.fs 1 (vI bad)), .d (.it .i64 (d.nx + 1))]), (6, .cells 36 ((encW w).map AV.d)), (1, .frame 2 [(0, .ptr 0 0)]), (2, .tag 0 T0)], 7⟩
def y8 (bad : List Int) (d : Dk) (w : Wr) (T0 : Nat) : S := ⟨[(0, .ptr 0 0)], [(0, .cells 6 [.d (.fs 32 (d.safe.map encS)), .d (.fs 36 ((d.wait.map encW) ++ [encW w])), .d (.it .i64 d.ep), .d (.fs 38 (d.log ++ [encEv w])), .d (.fs 1 (vI bad)), .d (.it .i64 (d.nx + 1))]), (1, .frame 2 [(0, .ptr 0 0)]), (2, .tag 0 T0)], 7⟩
theorem wk_id {N : Nat} {σ τ : S} (h : Wk N σ τ) : Wk N σ τ := h
theorem draw7_id {P : Program} {ti : Nat → Option Ty} {N : Nat} {ops : List Oper} {σ : S} {K : S → Prop} (h : DrawS P ti N 7 ops σ K) : DrawS P ti N 7 ops σ K := h
theorem draw8_id {P : Program} {ti : Nat → Option Ty} {N : Nat} {ops : List Oper} {σ : S} {K : S → Prop} (h : DrawS P ti N 8 ops σ K) : DrawS P ti N 8 ops σ K := h
set_option maxHeartbeats 16000000 in
theorem rWrite_yes (bad : List Int) (d : Dk) (a : Int) (s : List UInt8) (hs : s.length = 32) (k i : Int) (hn : 0 ≤ d.nx ∧ d.nx ≤ 1000000) (hb : bad.length ≤ 1000000) (hw : d.wait.length ≤ 1000000) (hlg : d.log.length ≤ 1000000) (ha : 0 ≤ a ∧ a < d.safe.length) (h : d.nx ∉ bad) :
  FnH Tryz.prog 9 [.ptr 0 0, .d (.it .i64 a), .dg 32 (encS s), .dg 2 [.it .i64 k, .it .i64 i]] (rObs bad d) 1 [0] (.d (.it .i64 0)) (rObs bad (wrD d ⟨a, s, k, i, 0⟩)) 1 := by
 have hin : FnC Tryz.prog 78 [.d (.fs 1 (vI bad)), .d (.it .i64 (d.nx + 1 - 1))] (.d (.bl (decide (d.nx ∈ bad)))) := by
  have := refIn_ok bad (d.nx + 1 - 1) hb
  rwa [show decide (d.nx + 1 - 1 ∈ bad) = decide (d.nx ∈ bad) by rw [Int.add_sub_cancel]] at this
 have hl1 : (d.safe.map encS).length = d.safe.length := List.length_map ..
 have hl2 : (d.wait.map encW).length = d.wait.length := List.length_map ..
 rw [decide_eq_false h] at hin
 obtain ⟨g, rfl⟩ := is32 hs
 refine FnH.intro ti_ok Tryz.func9 rfl Tryz.ntmps9 Tryz.call9 rfl rfl rfl (Nat.le_refl _) rfl rfl rfl rfl rfl (fun T => ?_)
 (repeat' ((conv=>whnf);first|with_reducible refine gA ?_|((with_reducible refine callE_id ?_); first | (refine CallE.con ⟨_, hin, ?_⟩) | refine CallE.inl ?_) | ((with_reducible refine callI_id ?_); with_reducible refine CallI.inl ti_ok i36 rfl ?_) | ((with_reducible refine drawS_id ?_); ((fail_if_success (with_reducible refine draw7_id ?_)); (fail_if_success (with_reducible refine draw8_id ?_)); first | refine draw_newB ti_ok mixed (by decide +kernel) ?_ | refine draw_hoist ti_ok mixed 0 (by decide +kernel) ?_))|(with_reducible first|refine gB0 ?_|refine gZ (fun x hx hu=>?_)|refine gY (fun x hx=>?_)|refine gE ?_|refine Both.mk ?_ ?_|refine gS (fun h=>?_) (fun h=>?_)|refine Spl.nt ?_|refine Spl.mk (fun h=>?_) (fun h=>?_))))
 all_goals first | (exfalso; omega) | skip
 refine DrawS.mid (y7 bad d ⟨a, sec32 g, k, i, d.ep⟩ (T 0)) (draw_all ti_ok mixed [0, 1, 1, 1] (by decide +kernel) ?_) ?_
 ·(repeat' ((conv=>whnf);first|with_reducible refine gA ?_|with_reducible exact trivial | with_reducible refine Br.mk ?_ ?_ | with_reducible refine AtA.mk' ?_ | with_reducible refine CapE.mk (fun ext hext => ?_) | ((with_reducible refine wk_id ?_); exact Wk.vwL (And.intro (Vw.eq rfl) (And.intro (Vw.eq rfl) trivial)) (And.intro (VwO.cells _ _ _ (.cons (Vw.eq rfl) rfl (.cons (Vw.ts' rfl) rfl (.cons (Vw.eq rfl) rfl (.cons (Vw.eq rfl) rfl (.cons (Vw.eq rfl) rfl (.cons (Vw.eq rfl) rfl .nil))))))) (And.intro (VwO.same _) (And.intro (VwO.same _) (And.intro (VwO.same _) trivial)))) rfl)|(with_reducible first|refine gB0 ?_|refine gZ (fun x hx hu=>?_)|refine gY (fun x hx=>?_)|refine gE ?_|refine Both.mk ?_ ?_|refine gS (fun h=>?_) (fun h=>?_)|refine Spl.nt ?_|refine Spl.mk (fun h=>?_) (fun h=>?_))))
 refine DrawS.mid (y8 bad d ⟨a, sec32 g, k, i, d.ep⟩ (T 0)) (draw_all ti_ok mixed [0, 1, 1, 1] (by decide +kernel) ?_) ?_
 ·(repeat' ((conv=>whnf);first|with_reducible refine gA ?_|with_reducible exact trivial | with_reducible refine Br.mk ?_ ?_ | with_reducible refine AtA.mk' ?_ | with_reducible refine CapE.mk (fun ext hext => ?_) | ((with_reducible refine wk_id ?_); exact Wk.vwL (And.intro (Vw.eq rfl) trivial) (And.intro (VwO.cells _ _ _ (.cons (Vw.eq rfl) rfl (.cons (Vw.eq rfl) rfl (.cons (Vw.eq rfl) rfl (.cons (Vw.ts' rfl) rfl (.cons (Vw.eq rfl) rfl (.cons (Vw.eq rfl) rfl .nil))))))) (And.intro (VwO.same _) (And.intro (VwO.same _) trivial))) rfl)|(with_reducible first|refine gB0 ?_|refine gZ (fun x hx hu=>?_)|refine gY (fun x hx=>?_)|refine gE ?_|refine Both.mk ?_ ?_|refine gS (fun h=>?_) (fun h=>?_)|refine Spl.nt ?_|refine Spl.mk (fun h=>?_) (fun h=>?_))))
 (repeat' ((conv=>whnf);first|with_reducible refine gA ?_|(with_reducible first|refine gB ?_|refine gZ (fun x hx hu=>?_)|refine gY (fun x hx=>?_)|refine gE ?_|refine Both.mk ?_ ?_|refine gS (fun h=>?_) (fun h=>?_)|refine Spl.nt ?_|refine Spl.mk (fun h=>?_) (fun h=>?_))))
 refine finH_now rfl (And.intro (rk_eq rfl ?_ rfl) trivial) (And.intro rfl (And.intro rfl trivial))
 show _ = (d.wait ++ [_]).map encW
 rw [List.map_append]; rfl
end Go.Proofs.YthknbpijaoljgaaGreatDoor
namespace Go.Proofs.YthknbpijaoljgaaGreatDoor
open Go.Sy
theorem prbP_congr {od od' : Nat → Bool} {I : List Ino} {E : List Ent} {R : List Bool} {k : Nat} (h : od k = od' k) (kind : Nat) : prbP od I E R kind k = prbP od' I E R kind k := by
 unfold prbP
 rw [h]
theorem probs_congr {od od' : Nat → Bool} {I : List Ino} {E : List Ent} {own own' : Nat → Nat} (h1 : ∀ k, k < 24 → od k = od' k) (h2 : own = own') : probs od I E own = probs od' I E own' := by
 subst h2
 unfold probs prbK
 congr 2
 refine List.filter_congr fun j _ => ?_
 exact prbP_congr (h1 _ (Nat.mod_lt _ (by decide))) _
theorem xI_congr {f g : Int → List UInt8} (h : ∀ n : Int, 0 ≤ n → f n = g n) (n : Nat) : xI f n = xI g n := by
 unfold xI
 refine List.map_congr_left fun i _ => ?_
 rw [inoAt_eq h]
theorem xE_congr {f g : Int → List UInt8} (h : ∀ n : Int, 0 ≤ n → f n = g n) (n : Nat) : xE f n = xE g n := by
 unfold xE
 refine List.map_congr_left fun i _ => ?_
 rw [entAt_eq h]
theorem takP_congr {f g : Int → List UInt8} (h : ∀ n : Int, 0 ≤ n → f n = g n) (n : Int) : takP f n ↔ takP g n := by
 have e : ∀ j : Nat, entAt f j = entAt g j := fun j => entAt_eq h j
 unfold takP
 simp only [e]
theorem own_congr {d : Option Dk} {m : List (List UInt8)} (h : ∀ n : Int, 0 ≤ n → rdS d n = imS m n) : dOwn d = fun b => refO m (b : Nat) 16 := by
 funext b
 unfold dOwn refO ownK
 congr 1
 refine List.filter_congr fun i hi => ?_
 have hi16 : i < 16 := List.mem_range.1 hi
 have e1 : (xI (rdS d) 16).getD i ino0 = inoAt (imS m) (i : Nat) := by
  have h1 : i < (xI (rdS d) 16).length := by rw [xI_len]; exact hi16
  rw [List.getD_eq_getElem?_getD, List.getElem?_eq_getElem h1, Option.getD_some, xI_get, if_pos hi16, inoAt_eq h]
 simp only [e1, takP_congr h]
theorem od_congr {d : Option Dk} {m : List (List UInt8)} (h : ∀ n : Int, 0 ≤ n → rdS d n = imS m n) (hp : ∀ n : Int, 0 ≤ n → (hasP d n ↔ n < m.length)) (k : Nat) : dod d k = rod m k := by
 unfold dod rod
 rw [Bool.eq_iff_iff, decide_eq_true_eq, decide_eq_true_eq]
 unfold oddP
 rw [hp _ (by omega), h _ (by omega)]
 constructor
 ·exact fun q => ⟨by omega, q.2⟩
 ·exact fun q => ⟨by omega, q.2⟩
theorem has_im (m : List (List UInt8)) (ws : List Wr) (n : Int) (h0 : 0 ≤ n) : hasP (dskOf m ws) n ↔ n < (withF m ws).length := by
 unfold dskOf withF
 by_cases hc : 1 ≤ m.length ∧ m.length ≤ 65
 ·rw [if_pos hc, if_pos hc, putWs_len]
  show 0 ≤ n ∧ n < m.length ↔ _
  omega
 ·rw [if_neg hc, if_neg hc]
  show False ↔ n < ((0 : Nat) : Int)
  exact ⟨fun h => h.elim, fun h => by omega⟩
end Go.Proofs.YthknbpijaoljgaaGreatDoor
namespace Go.Proofs.YthknbpijaoljgaaGreatDoor
open Go.Sy
def hiS (o : Option Nat) (t : Bool) (k : Nat) (r : Nat × Nat) : Nat × Nat :=
 match o with
 | some i => bif t then (k, i) else r
 | none => r
def hiK (f : Int → List UInt8) (b : Int) : Nat → Nat × Nat
 | 0 => (0, 0)
 | k + 1 => hiS (posB (inoAt f (k : Nat)) b) (decide (takP f (k : Nat))) k (hiK f b k)
theorem hiK_succ (f : Int → List UInt8) (b : Int) (k : Nat) : hiK f b (k + 1) = hiS (posB (inoAt f (k : Nat)) b) (decide (takP f (k : Nat))) k (hiK f b k) := rfl
theorem hiS_n {o : Option Nat} {t : Bool} {k : Nat} {r : Nat × Nat} (h : t = false ∨ o = none) : hiS o t k r = r := by
 rcases h with rfl | rfl
 ·cases o <;> rfl
 ·rfl
theorem posB_lt {x : Ino} {b : Int} {i : Nat} (h : posB x b = some i) : i < 4 := by
 unfold posB at h
 split at h
 ·cases h; decide
 ·split at h
  ·cases h; decide
  ·split at h
   ·cases h; decide
   ·split at h
    ·cases h; decide
    ·cases h
theorem hiK_lt (f : Int → List UInt8) (b : Int) : ∀ k, (hiK f b k).2 < 4 ∧ (k ≠ 0 → (hiK f b k).1 < k)
 | 0 => ⟨(by show (0 : Nat) < 4; decide), fun h => absurd rfl h⟩
 | k + 1 => by
  have ih := hiK_lt f b k
  rw [hiK_succ]
  unfold hiS
  cases hp : posB (inoAt f (k : Nat)) b with
  | none => exact ⟨ih.1, fun _ => by
    by_cases hk : k = 0
    ·subst hk; show (0 : Nat) < 1; decide
    ·have := ih.2 hk; show (hiK f b k).1 < k + 1; omega⟩
  | some i =>
   cases decide (takP f (k : Nat)) with
   | true => exact ⟨posB_lt hp, fun _ => by show k < k + 1; omega⟩
   | false => exact ⟨ih.1, fun _ => by
     by_cases hk : k = 0
     ·subst hk; show (0 : Nat) < 1; decide
     ·have := ih.2 hk; show (hiK f b k).1 < k + 1; omega⟩
theorem cutK_hi {f : Int → List UInt8} {b : Int} : ∀ {k : Nat}, (∃ n, n < k ∧ b ∈ blks (inoAt f (n : Nat)) ∧ takP f (n : Nat)) → cutK f b k = cutW1 (hiK f b k).1 (cutI (inoAt f ((hiK f b k).1 : Nat)) (hiK f b k).2) ∧ posB (inoAt f ((hiK f b k).1 : Nat)) b = some (hiK f b k).2
 | 0, ⟨n, h, _⟩ => by omega
 | k + 1, h => by
  rw [cutK_succ, hiK_succ]
  by_cases hk : ∃ n, n < k ∧ b ∈ blks (inoAt f (n : Nat)) ∧ takP f (n : Nat)
  ·have ih := cutK_hi hk
   unfold cutS hiS
   cases hp : posB (inoAt f (k : Nat)) b with
   | none => exact ih
   | some i =>
    cases hd : decide (takP f (k : Nat)) with
    | true => exact ⟨rfl, hp⟩
    | false => exact ih
  ·obtain ⟨n, h1, h2, h3⟩ := h
   have hn : n = k := by
    rcases Nat.lt_or_ge n k with hl | hl
    ·exact absurd ⟨n, hl, h2, h3⟩ hk
    ·omega
   subst hn
   obtain ⟨i, hi⟩ := posB_some h2
   rw [hi, decide_eq_true h3]
   exact ⟨rfl, hi⟩
theorem one_blk {x : Ino} (h : RI x) {b : Int} (hb : 1 ≤ b) : (x.b0 = b → x.b1 ≠ b ∧ x.b2 ≠ b ∧ x.b3 ≠ b) ∧ (x.b1 = b → x.b2 ≠ b ∧ x.b3 ≠ b) ∧ (x.b2 = b → x.b3 ≠ b) := by
 unfold RI at h
 omega
def hgS (m : List (List UInt8)) (b : Int) (k : Nat) (r : Nat × Nat) : S := ⟨[(0, .d (encM m)), (1, .d (.it .i64 b)), (6, .d (.it .i64 (r.1 : Nat))), (7, .d (.it .i64 (r.2 : Nat))), (8, .d (.it .i64 (k : Nat)))], [], 0⟩
set_option maxHeartbeats 16000000 in
theorem hi38_ok (m : List (List UInt8)) (hm : ImOK m) (b : Int) (hb : 1 ≤ b ∧ b ≤ 24) : FnC Tryz.prog 42 [.d (encM m), .d (.it .i64 b)] (.tup [.d (.it .i64 ((hiK (imS m) b 16).1 : Nat)), .d (.it .i64 ((hiK (imS m) b 16).2 : Nat))]) := by
 have hi := fun n => refInode_ok m hm n
 have ht := fun n => refTaken_ok m hm n
 refine FnC.intro ti_ok Tryz.func42 rfl Tryz.ntmps42 Tryz.call42 rfl (Nat.le_of_ble_eq_true rfl) rfl ?_
 (repeat' ((conv=>whnf);first|with_reducible refine gA ?_|(with_reducible first|refine gB ?_|refine gZ (fun x hx hu=>?_)|refine gY (fun x hx=>?_)|refine gE ?_|refine Both.mk ?_ ?_|refine gS (fun h=>?_) (fun h=>?_)|refine Spl.nt ?_|refine Spl.mk (fun h=>?_) (fun h=>?_))))
 conv => whnf
 refine loop_rule ti_ok (fun k : Nat => k ≤ 16) (fun k => hgS m b k (hiK (imS m) b k)) (fun k => 16 - k) 0 (Nat.zero_le _) ⟨And.intro rfl (And.intro rfl (And.intro rfl (And.intro rfl (And.intro rfl trivial)))), trivial, rfl⟩ ?_
 intro k hk
 by_cases hk16 : k < 16
 ·have hik := hi (k : Nat)
  have htk := ht (k : Nat)
  have hRI := inoAt_RI (imS m) (k : Nat)
  have hsc := hiK_succ (imS m) b k
  generalize inoAt (imS m) (k : Nat) = x at hik hRI hsc
  have hx6 : encI x = [.it .i64 x.k, .it .i64 x.z, .it .i64 x.b0, .it .i64 x.b1, .it .i64 x.b2, .it .i64 x.b3] := rfl
  rw [hx6] at hik
  have h1 := one_blk hRI hb.1
  generalize hiK (imS m) b k = r at hsc ⊢
  have c0 := fun (h : x.b0 = b) => (show posB x b = some 0 from if_pos h)
  have c1 := fun (h0 : ¬ x.b0 = b) (h : x.b1 = b) => (show posB x b = some 1 from (if_neg h0).trans (if_pos h))
  have c2 := fun (h0 : ¬ x.b0 = b) (h1 : ¬ x.b1 = b) (h : x.b2 = b) => (show posB x b = some 2 from (if_neg h0).trans ((if_neg h1).trans (if_pos h)))
  have c3 := fun (h0 : ¬ x.b0 = b) (h1 : ¬ x.b1 = b) (h2 : ¬ x.b2 = b) (h : x.b3 = b) => (show posB x b = some 3 from (if_neg h0).trans ((if_neg h1).trans ((if_neg h2).trans (if_pos h))))
  by_cases hT : takP (imS m) (k : Nat)
  all_goals first | rw [decide_eq_true hT] at htk hsc | rw [decide_eq_false hT] at htk hsc
  all_goals (repeat' ((conv=>whnf);first|with_reducible refine gA ?_|((with_reducible refine callE_id ?_); first | (refine CallE.con ⟨_, hik, ?_⟩) | (refine CallE.con ⟨_, htk, ?_⟩)) | with_reducible refine CallP.mk ⟨_, htk, ?_⟩ | with_reducible refine LoopS.unroll ti_ok 5 ?_|(with_reducible first|refine gB ?_|refine gZ (fun x hx hu=>?_)|refine gY (fun x hx=>?_)|refine gE ?_|refine Both.mk ?_ ?_|refine gS (fun h=>?_) (fun h=>?_)|refine Spl.nt ?_|refine Spl.mk (fun h=>?_) (fun h=>?_))))
  all_goals first | (exfalso; omega) | skip
  all_goals first
   | (refine again (k + 1) hk16 (by first | omega | (dsimp only; omega)) (And.intro rfl (And.intro rfl (And.intro (it_eq (by rw [hsc, hiS_n (by first | exact .inl rfl | exact .inr (posB_none (by omega) (by omega) (by omega) (by omega)))])) (And.intro (it_eq (by rw [hsc, hiS_n (by first | exact .inl rfl | exact .inr (posB_none (by omega) (by omega) (by omega) (by omega)))])) (And.intro (it_eq (by omega)) trivial))))) trivial rfl; done)
   | (refine again (k + 1) hk16 (by first | omega | (dsimp only; omega)) (And.intro rfl (And.intro rfl (And.intro (it_eq (by first | (rw [hsc, c0 (by omega)]; rfl) | (rw [hsc, c1 (by omega) (by omega)]; rfl) | (rw [hsc, c2 (by omega) (by omega) (by omega)]; rfl) | (rw [hsc, c3 (by omega) (by omega) (by omega) (by omega)]; rfl))) (And.intro (it_eq (by first | (rw [hsc, c0 (by omega)]; rfl) | (rw [hsc, c1 (by omega) (by omega)]; rfl) | (rw [hsc, c2 (by omega) (by omega) (by omega)]; rfl) | (rw [hsc, c3 (by omega) (by omega) (by omega) (by omega)]; rfl))) (And.intro (it_eq (by omega)) trivial))))) trivial rfl; done)
 ·have h16 : k = 16 := by omega
  subst h16
  (repeat' ((conv=>whnf);first|with_reducible refine gA ?_|(with_reducible first|refine gB ?_|refine gZ (fun x hx hu=>?_)|refine gY (fun x hx=>?_)|refine gE ?_|refine Both.mk ?_ ?_|refine gS (fun h=>?_) (fun h=>?_)|refine Spl.nt ?_|refine Spl.mk (fun h=>?_) (fun h=>?_))))
  rfl
end Go.Proofs.YthknbpijaoljgaaGreatDoor
namespace Go.Proofs.YthknbpijaoljgaaGreatDoor
open Go.Sy
theorem probsD_im {d : Option Dk} {m : List (List UInt8)} (h : ∀ n : Int, 0 ≤ n → rdS d n = imS m n) (hp : ∀ n : Int, 0 ≤ n → (hasP d n ↔ n < m.length)) : probs (rod m) (xI (imS m) 16) (xE (imS m) 24) (fun b => refO m (b : Nat) 16) = probsD d := by
 unfold probsD
 rw [xI_congr h, xE_congr h, probs_congr (fun k _ => od_congr h hp k) (own_congr h)]
theorem entW_im {f g : Int → List UInt8} (h : ∀ n : Int, 0 ≤ n → f n = g n) (k : Nat) : entW f k = entW g k := by
 unfold entW
 rw [entAt_eq h]
theorem cutK_im {f g : Int → List UInt8} (h : ∀ n : Int, 0 ≤ n → f n = g n) (b : Int) : ∀ k, cutK f b k = cutK g b k
 | 0 => rfl
 | k + 1 => by
  rw [cutK_succ, cutK_succ, cutK_im h b k, inoAt_eq h]
  congr 1
  rw [Bool.eq_iff_iff, decide_eq_true_eq, decide_eq_true_eq, takP_congr h]
set_option maxHeartbeats 16000000 in
theorem refNext_ok (m : List (List UInt8)) (hm : ImOK m) (d : Option Dk) (h : ∀ n : Int, 0 ≤ n → rdS d n = imS m n) (hp : ∀ n : Int, 0 ≤ n → (hasP d n ↔ n < m.length)) : FnC Tryz.prog 12 [.d (encM m)] (nextV (nextW d)) := by
 have hc := refChk_ok m hm
 rw [probsD_im h hp] at hc
 cases hpd : probsD d with
 | nil =>
  rw [hpd] at hc
  rw [probs_nil hpd]
  refine FnC.intro ti_ok Tryz.func12 rfl Tryz.ntmps12 Tryz.call12 rfl (Nat.le_of_ble_eq_true rfl) rfl ?_
  (repeat' ((conv=>whnf);first|with_reducible refine gA ?_|((with_reducible refine callE_id ?_); (refine CallE.con ⟨_, hc, ?_⟩))|(with_reducible first|refine gB ?_|refine gZ (fun x hx hu=>?_)|refine gY (fun x hx=>?_)|refine gE ?_|refine Both.mk ?_ ?_|refine gS (fun h=>?_) (fun h=>?_)|refine Spl.nt ?_|refine Spl.mk (fun h=>?_) (fun h=>?_))))
  rfl
 | cons p t =>
  rw [hpd] at hc
  rw [probs_cons hpd]
  have hl : (List.map encP t).length = t.length := List.length_map ..
  rcases probs_head hpd with ⟨kind, k, k1, k2, k3, rfl, hP⟩ | ⟨b, b1, b2, rfl, hb⟩
  ·have he := refEntry_ok m hm (k : Nat)
   rw [encE] at he
   rw [if_neg (show ¬ ((kind : Nat) : Int) = 6 by omega)]
   have hew : entW (rdS d) k = ⟨17 + (k : Nat), zeroS, 3, (entAt (imS m) (k : Nat)).p, 0⟩ := entW_im h k
   show FnC _ _ _ (.tup [.dg 36 (encW (entW (rdS d) k)), .d (.bl true)])
   rw [hew]
   have hc : FnC Tryz.prog 40 [.d (encM m)] (.d (.fs 2 ([.it .i64 (kind : Nat), .it .i64 (k : Nat)] :: t.map encP))) := hc
   refine FnC.intro ti_ok Tryz.func12 rfl Tryz.ntmps12 Tryz.call12 rfl (Nat.le_of_ble_eq_true rfl) rfl ?_
   (repeat' ((conv=>whnf);first|with_reducible refine gA ?_|((with_reducible refine callE_id ?_); first | (refine CallE.con ⟨_, hc, ?_⟩) | (refine CallE.con ⟨_, he, ?_⟩))|(with_reducible first|refine gB ?_|refine gZ (fun x hx hu=>?_)|refine gY (fun x hx=>?_)|refine gE ?_|refine Both.mk ?_ ?_|refine gS (fun h=>?_) (fun h=>?_)|refine Spl.nt ?_|refine Spl.mk (fun h=>?_) (fun h=>?_))))
   rfl
  ·rw [if_pos rfl]
   have hx := cutK_hi (own_some hb)
   rw [cutK_im h] at hx
   show FnC _ _ _ (.tup [.dg 36 (encW (cutK (rdS d) ((b : Nat) : Int) 16)), .d (.bl true)])
   rw [cutK_im h]
   have hh := hi38_ok m hm ((b : Nat) : Int) ⟨by omega, by omega⟩
   have hlt := hiK_lt (imS m) ((b : Nat) : Int) 16
   have hposc : posB (inoAt (imS m) ((hiK (imS m) ((b : Nat) : Int) 16).1 : Nat)) ((b : Nat) : Int) = some (hiK (imS m) ((b : Nat) : Int) 16).2 := by
    have h9 := hx.2
    have e1 : hiK (rdS d) ((b : Nat) : Int) 16 = hiK (imS m) ((b : Nat) : Int) 16 := by
     have key : ∀ k, hiK (rdS d) ((b : Nat) : Int) k = hiK (imS m) ((b : Nat) : Int) k := fun k => by
      induction k with
      | zero => rfl
      | succ k ih =>
       rw [hiK_succ, hiK_succ, ih, inoAt_eq h]
       congr 1
       rw [Bool.eq_iff_iff, decide_eq_true_eq, decide_eq_true_eq, takP_congr h]
     exact key 16
    rw [e1, inoAt_eq h] at h9
    exact h9
   have hcut : cutK (imS m) ((b : Nat) : Int) 16 = cutW1 (hiK (imS m) ((b : Nat) : Int) 16).1 (cutI (inoAt (imS m) ((hiK (imS m) ((b : Nat) : Int) 16).1 : Nat)) (hiK (imS m) ((b : Nat) : Int) 16).2) := by
    refine (cutK_hi (f := imS m) ?_).1
    obtain ⟨n, n1, n2, n3⟩ := own_some hb
    exact ⟨n, n1, by rw [← inoAt_eq h]; exact n2, (takP_congr h _).1 n3⟩
   rw [hcut]
   generalize hiK (imS m) ((b : Nat) : Int) 16 = r at *
   obtain ⟨n, at'⟩ := r
   dsimp only at hh hlt hposc hcut ⊢
   have hi := refInode_ok m hm (n : Nat)
   have hRI := inoAt_RI (imS m) (n : Nat)
   have hn16 := hlt.2 (by decide)
   have hat := hlt.1
   clear hx hcut
   generalize inoAt (imS m) (n : Nat) = x at *
   have hx6 : encI x = [.it .i64 x.k, .it .i64 x.z, .it .i64 x.b0, .it .i64 x.b1, .it .i64 x.b2, .it .i64 x.b3] := rfl
   rw [hx6] at hi
   have hR := (cutI_RI hRI (show (1 : Int) ≤ ((b : Nat) : Int) by omega) hposc).1
   have hI := refIno_ok (cutI x at')
   rw [cutV hR] at hI
   have hW := cutW1_s (n := n) hR
   rw [hW]
   have hc : FnC Tryz.prog 40 [.d (encM m)] (.d (.fs 2 ([.it .i64 6, .it .i64 (b : Nat)] :: t.map encP))) := hc
   have h4 : at' = 0 ∨ at' = 1 ∨ at' = 2 ∨ at' = 3 := by omega
   rcases h4 with rfl | rfl | rfl | rfl
   all_goals (
    refine FnC.intro ti_ok Tryz.func12 rfl Tryz.ntmps12 Tryz.call12 rfl (Nat.le_of_ble_eq_true rfl) rfl ?_
    (repeat' ((conv=>whnf);first|with_reducible refine gA ?_|((with_reducible refine callE_id ?_); first | (refine CallE.con ⟨_, hc, ?_⟩) | (refine CallE.con ⟨_, hh, ?_⟩) | (refine CallE.con ⟨_, hi, ?_⟩) | (refine CallE.con ⟨_, hI, ?_⟩)) | with_reducible refine LoopS.unroll ti_ok 5 ?_|(with_reducible first|refine gB ?_|refine gZ (fun x hx hu=>?_)|refine gY (fun x hx=>?_)|refine gE ?_|refine Both.mk ?_ ?_|refine gS (fun h=>?_) (fun h=>?_)|refine Spl.nt ?_|refine Spl.mk (fun h=>?_) (fun h=>?_))))
    rfl)
end Go.Proofs.YthknbpijaoljgaaGreatDoor
