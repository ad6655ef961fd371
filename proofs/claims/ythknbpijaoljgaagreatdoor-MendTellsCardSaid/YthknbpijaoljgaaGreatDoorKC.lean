/- Contracts of the functions that the law reaches, and the law. Conditions: none. -/
import Derived.Test.YthknbpijaoljgaaGreatDoorKB
import Derived.Test.YthknbpijaoljgaaGreatDoorSD
import Derived.Test.YthknbpijaoljgaaGreatDoorSC
import Derived.Test.YthknbpijaoljgaaGreatDoorCards
import Derived.Test.YthknbpijaoljgaaGreatDoorTie
set_option maxRecDepth 100000
set_option linter.all false
namespace Go.Proofs.YthknbpijaoljgaaGreatDoor
open Go.Sy
theorem putWs_img {d : Dk} (hd : DkOK (some d)) : mntP (putWs d.safe d.wait) ↔ mntP (imgD (some d)) := by
 have e : ∀ n : Nat, n < d.safe.length → imS (putWs d.safe d.wait) (n : Nat) = imS (imgD (some d)) (n : Nat) := fun n hn => by rw [imS_img d n hn, rd_put d n (by omega)]
 have hl : (putWs d.safe d.wait).length = d.safe.length := putWs_len ..
 have hl2 := img_len d
 unfold mntP
 rw [hl, hl2]
 constructor
 ·rintro ⟨h1, h2, h3, h4⟩
  have e0 := e 0 (by omega)
  have e1 := e 1 (by omega)
  exact ⟨h1, (show imS (imgD (some d)) 0 = _ from e0.symm.trans h2), (show inoB (imS (imgD (some d)) 1) from e1 ▸ h3), (show (inoOf (imS (imgD (some d)) 1)).k = 2 from e1 ▸ h4)⟩
 ·rintro ⟨h1, h2, h3, h4⟩
  have e0 := e 0 (by omega)
  have e1 := e 1 (by omega)
  exact ⟨h1, (show imS (putWs d.safe d.wait) 0 = _ from e0.trans h2), (show inoB (imS (putWs d.safe d.wait) 1) from e1.symm ▸ h3), (show (inoOf (imS (putWs d.safe d.wait) 1)).k = 2 from e1.symm ▸ h4)⟩
theorem it_InR {d : Dk} (h : Mnt d) (hR : InR d) : ∀ j, InR (itD d j)
 | 0 => hR
 | j + 1 => by
  have ih := it_InR h hR j
  show InR (stepD (itD d j))
  unfold stepD
  cases hw : nextW (some (itD d j)) with
  | none => exact ih
  | some w =>
   obtain ⟨_, _, h1, h2, _⟩ := step_mnt (it_mnt h j) hw
   intro x hx
   have hn := (it_mnt h j).n
   rcases List.mem_append.1 hx with hx | hx
   ·exact ih x hx
   ·rw [List.mem_singleton.1 hx]
    show 0 ≤ w.a ∧ w.a < (itD d j).safe.length
    omega
def rmA (bad : List Int) (T0 : Nat) (D : Dk) (j : Nat) : S := ⟨[(0, .ptr 0 0), (5, .d (.it .i64 (j : Nat)))], [(0, .cells 6 [.d (.fs 32 (D.safe.map encS)), .d (.fs 36 (D.wait.map encW)), .d (.it .i64 D.ep), .d (.fs 38 D.log), .d (.fs 1 (vI bad)), .d (.it .i64 D.nx)]), (1, .frame 2 [(0, .ptr 0 0)]), (2, .tag 0 T0)], 3⟩
set_option maxHeartbeats 16000000 in
theorem rMend_ok (bad : List Int) (hbl : bad.length ≤ 1000) (d : Dk) (h : Mnt d) (hR : InR d) (hb : d.wait.length ≤ 1000 ∧ d.log.length ≤ 1000 ∧ 0 ≤ d.nx ∧ d.nx ≤ 1000) (i : Nat) (h88 : i ≤ 88) (e : Bool) (hi : mdEnd bad d i e) (hj : ∀ j, j < i → nextW (some (itD d j)) ≠ none) (hg : ∀ j : Nat, j < i → d.nx + (j : Nat) ∉ bad) :
  FnH Tryz.prog 16 [.ptr 0 0] (rObs bad d) 1 [0] (.tup [.d (.it .i64 (i : Nat)), .d (.it .i64 (bif e then 3 else 0))]) (rObs bad (mdRes e (itD d i))) 1 := by
 have hdk := dkOK_of h (by omega)
 have hm := rMount_ok bad d hdk hR (by rw [h.n]; decide)
 rw [if_pos ((putWs_img hdk).2 (mnt_to h))] at hm
 refine FnH.intro ti_ok Tryz.func16 rfl Tryz.ntmps16 Tryz.call16 rfl rfl rfl (Nat.le_refl _) rfl rfl rfl rfl rfl (fun T => ?_)
 (repeat' ((conv=>whnf);first|with_reducible refine gA ?_|((with_reducible refine callI_id ?_); refine CallI.byR (CallR.mk ⟨[.d (.fp 6 (rCells bad d))], _, And.intro ⟨6, _, by with_unfolding_all exact rfl, Nat.le_refl _, rfl, rfl⟩ trivial, hm, rfl, ?_⟩))|(with_reducible first|refine gB ?_|refine gZ (fun x hx hu=>?_)|refine gY (fun x hx=>?_)|refine gE ?_|refine Both.mk ?_ ?_|refine gS (fun h=>?_) (fun h=>?_)|refine Spl.nt ?_|refine Spl.mk (fun h=>?_) (fun h=>?_))))
 conv => whnf
 refine loop_ruleW ti_ok (fun j : Nat => j ≤ i) (fun j => rmA bad (T 0) (itD d j) j) (fun j => i - j) 0 (Nat.zero_le _) (Wk.en ⟨And.intro rfl (And.intro rfl trivial), (by (repeat (first | exact trivial | refine And.intro rfl ?_))), rfl⟩) ?_
 intro j hji
 have hM := it_mnt h j
 have hlen := it_len d j
 have hnx := it_nx (d := d) (i := j) fun q hq => hj q (by omega)
 have hRj := it_InR h hR j
 have hdj := dkOK_of hM (by omega)
 have hN0 := rNowH_ok bad (itD d j) hdj hRj
 have hX0 := refNext_ok (putWs (itD d j).safe (itD d j).wait) (putWs_ok hdj.1 hdj.2.1) (some (itD d j)) (fun n hn => rd_put (itD d j) n hn) (fun n hn => has_put (itD d j) n hn)
 have hnext : ∀ D : Dk, D = itD d j → FnC Tryz.prog 12 [.d (encM (putWs D.safe D.wait))] (nextV (nextW (some D))) := fun D hD => by rw [hD]; exact hX0
 by_cases hlt : j < i
 ·obtain ⟨w, hw⟩ := Option.ne_none_iff_exists'.1 (hj j hlt)
  obtain ⟨_, _, w1, w2, w3⟩ := step_mnt hM hw
  rw [hw] at hX0
  have hD : wrD (itD d j) w = itD d (j + 1) := by
   show _ = stepD (itD d j)
   unfold stepD
   rw [hw]
  have hW := rWrite_yes bad (itD d j) w.a w.s w3 w.k w.i ⟨by omega, by omega⟩ (by omega) (by omega) (by omega) ⟨by omega, by rw [hM.n]; omega⟩ (by rw [hnx]; exact hg j hlt)
  rw [show wrD (itD d j) ⟨w.a, w.s, w.k, w.i, 0⟩ = itD d (j + 1) from hD] at hW
  have hXw : FnC Tryz.prog 12 [.d (encM (putWs (itD d j).safe (itD d j).wait))] (.tup [.dg 36 (encW w), .d (.bl true)]) := hX0
  obtain ⟨wa, ws, wk, wi, we⟩ := w
  obtain ⟨g, rfl⟩ := is32 w3
  (repeat' ((conv=>whnf);first|with_reducible refine gA ?_|with_reducible refine AtA.mk' ?_ | ((with_reducible refine callE_id ?_); refine CallE.con ⟨_, hXw, ?_⟩) | ((with_reducible refine callI_id ?_); first | refine CallI.byH hN0 [0] (by with_unfolding_all exact rfl) ⟨rfl, by decide, by with_unfolding_all exact rfl⟩ (And.intro rfl trivial) rfl rfl ?_ | refine CallI.byH hW [0] (by with_unfolding_all exact rfl) ⟨rfl, by decide, by with_unfolding_all exact rfl⟩ (And.intro rfl trivial) rfl rfl ?_)|(with_reducible first|refine gB ?_|refine gZ (fun x hx hu=>?_)|refine gY (fun x hx=>?_)|refine gE ?_|refine Both.mk ?_ ?_|refine gS (fun h=>?_) (fun h=>?_)|refine Spl.nt ?_|refine Spl.mk (fun h=>?_) (fun h=>?_))))
  refine ⟨j + 1, hlt, by first | omega | (dsimp only; omega), Wk.en ⟨And.intro rfl (And.intro (it_eq (by omega)) trivial), (by (repeat (first | exact trivial | refine And.intro rfl ?_))), rfl⟩⟩
 ·have hje : j = i := by omega
  subst hje
  cases e with
  | false =>
   have hi : nextW (some (itD d j)) = none := hi
   rw [hi] at hX0
   have hXw : FnC Tryz.prog 12 [.d (encM (putWs (itD d j).safe (itD d j).wait))] (.tup [.dg 36 (encW w0), .d (.bl false)]) := hX0
   (repeat' ((conv=>whnf);first|with_reducible refine gA ?_|with_reducible refine AtA.mk' ?_ | ((with_reducible refine callE_id ?_); refine CallE.con ⟨_, hXw, ?_⟩) | ((with_reducible refine callI_id ?_); refine CallI.byH hN0 [0] (by with_unfolding_all exact rfl) ⟨rfl, by decide, by with_unfolding_all exact rfl⟩ (And.intro rfl trivial) rfl rfl ?_)|(with_reducible first|refine gB ?_|refine gZ (fun x hx hu=>?_)|refine gY (fun x hx=>?_)|refine gE ?_|refine Both.mk ?_ ?_|refine gS (fun h=>?_) (fun h=>?_)|refine Spl.nt ?_|refine Spl.mk (fun h=>?_) (fun h=>?_))))
   exact finH_now rfl (And.intro rfl trivial) (And.intro rfl (And.intro rfl trivial))
  | true =>
   have hi : nextW (some (itD d j)) ≠ none ∧ d.nx + (j : Nat) ∈ bad := hi
   obtain ⟨w, hw⟩ := Option.ne_none_iff_exists'.1 hi.1
   obtain ⟨_, _, w1, w2, w3⟩ := step_mnt hM hw
   rw [hw] at hX0
   have hW := rWrite_no bad (itD d j) w.a w.s w3 w.k w.i ⟨by omega, by omega⟩ (by omega) (.inr (by rw [hnx]; exact hi.2))
   rw [if_neg (by rw [hM.n]; omega)] at hW
   have hXw : FnC Tryz.prog 12 [.d (encM (putWs (itD d j).safe (itD d j).wait))] (.tup [.dg 36 (encW w), .d (.bl true)]) := hX0
   obtain ⟨wa, ws, wk, wi, we⟩ := w
   obtain ⟨g, rfl⟩ := is32 w3
   (repeat' ((conv=>whnf);first|with_reducible refine gA ?_|with_reducible refine AtA.mk' ?_ | ((with_reducible refine callE_id ?_); refine CallE.con ⟨_, hXw, ?_⟩) | ((with_reducible refine callI_id ?_); first | refine CallI.byH hN0 [0] (by with_unfolding_all exact rfl) ⟨rfl, by decide, by with_unfolding_all exact rfl⟩ (And.intro rfl trivial) rfl rfl ?_ | refine CallI.byH hW [0] (by with_unfolding_all exact rfl) ⟨rfl, by decide, by with_unfolding_all exact rfl⟩ (And.intro rfl trivial) rfl rfl ?_)|(with_reducible first|refine gB ?_|refine gZ (fun x hx hu=>?_)|refine gY (fun x hx=>?_)|refine gE ?_|refine Both.mk ?_ ?_|refine gS (fun h=>?_) (fun h=>?_)|refine Spl.nt ?_|refine Spl.mk (fun h=>?_) (fun h=>?_))))
   exact finH_now rfl (And.intro rfl trivial) (And.intro rfl (And.intro rfl trivial))
end Go.Proofs.YthknbpijaoljgaaGreatDoor
namespace Go.Proofs.YthknbpijaoljgaaGreatDoor
open Go.Sy
def isIt : D → Bool
 | .it .. => true
 | _ => false
theorem eqDs_it : ∀ l : List D, l.all isIt = true → eqDs l l = true
 | [], _ => rfl
 | x :: t, h => by
  rw [List.all_cons, Bool.and_eq_true] at h
  show (eqD x x && eqDs t t) = true
  rw [eqDs_it t h.2, Bool.and_true]
  cases x <;> first | (cases h.1; done) | simp [eqD]
theorem neqT {b : Bool} (h : b = true) : (!b) = false := by rw [h]; rfl
theorem spl_idT {b : Bool} {A B : Prop} (h : Spl b A B) : Spl b A B := h
set_option maxHeartbeats 8000000 in
theorem events_ok (ws : List Wr) (hw : ∀ w ∈ ws, w.s.length = 32) (hl : ws.length ≤ 100000) : FnC Tryz.prog 18 [.d (.fs 38 (ws.map encEv)), .d (.fs 38 (ws.map encEv))] (.d (.bl true)) := by
 have hv : (ws.map encEv).length = ws.length := List.length_map ..
 have ht : FnC Tryz.prog 50 [.d (.fs 2 []), .d (.fs 2 [])] (.d (.bl true)) := by
  refine FnC.intro ti_ok Tryz.func50 rfl Tryz.ntmps50 Tryz.call50 rfl (Nat.le_of_ble_eq_true rfl) rfl ?_
  (repeat' ((conv=>whnf);first|with_reducible refine gA ?_|with_reducible refine LoopS.unroll ti_ok 1 ?_|(with_reducible first|refine gB ?_|refine gZ (fun x hx hu=>?_)|refine gY (fun x hx=>?_)|refine gE ?_|refine Both.mk ?_ ?_|refine gS (fun h=>?_) (fun h=>?_)|refine Spl.nt ?_|refine Spl.mk (fun h=>?_) (fun h=>?_))))
  rfl
 refine FnC.intro ti_ok Tryz.func18 rfl Tryz.ntmps18 Tryz.call18 rfl (Nat.le_of_ble_eq_true rfl) rfl ?_
 (repeat' ((conv=>whnf);first|with_reducible refine gA ?_|(with_reducible first|refine gB ?_|refine gZ (fun x hx hu=>?_)|refine gY (fun x hx=>?_)|refine gE ?_|refine Both.mk ?_ ?_|refine gS (fun h=>?_) (fun h=>?_)|refine Spl.nt ?_|refine Spl.mk (fun h=>?_) (fun h=>?_))))
 conv => whnf
 refine loop_rule ti_ok (fun k : Nat => k ≤ ws.length) (fun k => ⟨[(0, .d (.fs 38 (ws.map encEv))), (1, .d (.fs 38 (ws.map encEv))), (5, .d (.it .i64 (k : Nat)))], [], 0⟩) (fun k => ws.length - k) 0 (Nat.zero_le _) ⟨And.intro rfl (And.intro rfl (And.intro rfl trivial)), trivial, rfl⟩ ?_
 intro k hk
 by_cases hkl : k < ws.length
 ·obtain ⟨x, hx⟩ := lt_get hkl
  have hxs := hw x (List.mem_of_getElem? hx)
  have hxe : (ws.map encEv)[k]? = some (encEv x) := by rw [List.getElem?_map, hx]; rfl
  obtain ⟨xa, xs, xk, xi, xe⟩ := x
  obtain ⟨g, rfl⟩ := is32 hxs
  (repeat' ((conv=>whnf);first|with_reducible refine gA ?_|((with_reducible refine spl_idT ?_); refine Spl.no (neqT (eqDs_it _ rfl)) ?_) | with_reducible refine AtA.mk' ?_ | refine at_some hxe ?_ | ((with_reducible refine callE_id ?_); (refine CallE.con ⟨_, ht, ?_⟩)) | refine CallP.mk ⟨_, ht, ?_⟩|(with_reducible first|refine gB ?_|refine gZ (fun x hx hu=>?_)|refine gY (fun x hx=>?_)|refine gE ?_|refine Both.mk ?_ ?_|refine gS (fun h=>?_) (fun h=>?_)|refine Spl.nt ?_|refine Spl.mk (fun h=>?_) (fun h=>?_))))
  refine again (k + 1) hkl (by first | omega | (dsimp only; omega)) (And.intro rfl (And.intro rfl (And.intro (it_eq (by omega)) trivial))) trivial rfl
 ·(repeat' ((conv=>whnf);first|with_reducible refine gA ?_|(with_reducible first|refine gB ?_|refine gZ (fun x hx hu=>?_)|refine gY (fun x hx=>?_)|refine gE ?_|refine Both.mk ?_ ?_|refine gS (fun h=>?_) (fun h=>?_)|refine Spl.nt ?_|refine Spl.mk (fun h=>?_) (fun h=>?_))))
  rfl
end Go.Proofs.YthknbpijaoljgaaGreatDoor
namespace Go.Proofs.YthknbpijaoljgaaGreatDoor
open Go.Sy
set_option maxHeartbeats 4000000 in
theorem rFail_ok (b0 bad : List Int) (hl : bad.length ≤ 100000) (d : Dk) : FnH Tryz.prog 10 [.ptr 0 0, .d (.fs 1 (vI bad))] (rObs b0 d) 1 [0] (.tup []) (rObs bad ⟨0, d.safe, d.wait, d.log, d.ep⟩) 1 := by
 have hv : (vI bad).length = bad.length := List.length_map ..
 refine FnH.intro ti_ok Tryz.func10 rfl Tryz.ntmps10 Tryz.call10 rfl rfl rfl (Nat.le_refl _) rfl rfl rfl rfl rfl (fun T => ?_)
 (repeat' ((conv=>whnf);first|with_reducible refine gA ?_|(with_reducible first|refine gB ?_|refine gZ (fun x hx hu=>?_)|refine gY (fun x hx=>?_)|refine gE ?_|refine Both.mk ?_ ?_|refine gS (fun h=>?_) (fun h=>?_)|refine Spl.nt ?_|refine Spl.mk (fun h=>?_) (fun h=>?_))))
 refine ⟨⟨[(0, .ptr 0 0)], [(0, .cells 6 [.d (.fs 32 (d.safe.map encS)), .d (.fs 36 (d.wait.map encW)), .d (.it .i64 d.ep), .d (.fs 38 d.log), .d (.fs 1 (vI bad)), .d (.it .i64 0)]), (1, .frame 2 [(0, .ptr 0 0)]), (2, .tag 0 (T 0))], 3⟩, Wk.vwL (And.intro (Vw.eq rfl) trivial) (And.intro (VwO.cells _ _ _ (.cons (Vw.eq rfl) rfl (.cons (Vw.eq rfl) rfl (.cons (Vw.eq rfl) rfl (.cons (Vw.eq rfl) rfl (.cons (Vw.ts' rfl) rfl (.cons (Vw.eq rfl) rfl .nil))))))) (And.intro (VwO.same _) (And.intro (VwO.same _) trivial))) rfl, rfl, And.intro rfl trivial, And.intro rfl (And.intro rfl trivial)⟩
set_option maxHeartbeats 4000000 in
theorem rFrom_no (m : List (List UInt8)) (h : ¬ (1 ≤ m.length ∧ m.length ≤ 65)) : FnC Tryz.prog 8 [.d (encM m)] (.tup [.d (.ot (.pointer none)), .d (.it .i64 1)]) := by
 have hml' : (m.map encS).length = m.length := List.length_map ..
 refine FnC.intro ti_ok Tryz.func8 rfl Tryz.ntmps8 Tryz.call8 rfl (Nat.le_of_ble_eq_true rfl) rfl ?_
 (repeat' ((conv=>whnf);first|with_reducible refine gA ?_|((with_reducible refine callE_id ?_); refine CallE.inl ?_) | with_reducible refine CallI.inl ti_ok i35 rfl ?_|(with_reducible first|refine gB ?_|refine gZ (fun x hx hu=>?_)|refine gY (fun x hx=>?_)|refine gE ?_|refine Both.mk ?_ ?_|refine gS (fun h=>?_) (fun h=>?_)|refine Spl.nt ?_|refine Spl.mk (fun h=>?_) (fun h=>?_))))
 all_goals first | (exfalso; omega) | rfl
def flE (l : List (List UInt8)) : List D := (l.map encS).flatten
theorem flE_len {l : List (List UInt8)} (h : ImOK l) : (flE l).length = l.length * 32 := by
 induction l with
 | nil => rfl
 | cons x t ih =>
  have hx : (encS x).length = 32 := by rw [encS_len]; exact h x List.mem_cons_self
  show (encS x ++ flE t).length = _
  rw [List.length_append, hx, ih fun y hy => h y (List.mem_cons_of_mem _ hy), List.length_cons]; omega
theorem flE_snoc (l : List (List UInt8)) (x : List UInt8) : flE (l ++ [x]) = flE l ++ encS x := by
 unfold flE
 rw [List.map_append, List.flatten_append]; simp
def frL (m : List (List UInt8)) (i : Nat) : List AV := (flE (m.take i)).map AV.d ++ List.replicate ((m.length - i) * 32) (AV.d (.it .u8 0))
theorem frL_len {m : List (List UInt8)} (h : ImOK m) {i : Nat} (hi : i ≤ m.length) : (frL m i).length = m.length * 32 := by
 unfold frL
 rw [List.length_append, List.length_map, flE_len (fun s hs => h s (List.mem_of_mem_take hs)), List.length_replicate, List.length_take, ← Nat.add_mul]
 congr 1; omega
theorem frL_step {m : List (List UInt8)} (h : ImOK m) {i : Nat} {x : List UInt8} (hx : m[i]? = some x) {p q : Nat} (hp : p = i * 32) (hq : q = i * 32 + 32) : (frL m i).take p ++ (encS x).map AV.d ++ (frL m i).drop q = frL m (i + 1) := by
 subst hp hq
 have hil := (List.getElem?_eq_some_iff.1 hx).1
 have h1 : ((flE (m.take i)).map AV.d).length = i * 32 := by rw [List.length_map, flE_len (fun s hs => h s (List.mem_of_mem_take hs)), List.length_take, Nat.min_eq_left (by omega)]
 unfold frL
 rw [List.take_append_of_le_length (by omega), List.take_of_length_le (by omega), List.drop_append, List.drop_of_length_le (by omega), List.nil_append, h1, List.drop_replicate, take_snoc hx, flE_snoc, List.map_append]
 congr 2
 have : m.length - i = m.length - (i + 1) + 1 := by omega
 rw [this, Nat.add_mul]; omega
theorem frL_step2 {m : List (List UInt8)} (h : ImOK m) {i : Nat} {x : List UInt8} (hx : m[i]? = some x) {y : List D} (hy : y = encS x) {p q : Nat} (hp : p = i * 32) (hq : q = i * 32 + 32) : (frL m i).take p ++ y.map AV.d ++ (frL m i).drop q = frL m (i + 1) := by rw [hy]; exact frL_step h hx hp hq
theorem frL_all (m : List (List UInt8)) (h : ImOK m) : ((frL m m.length).drop 0).take (m.length * 32) = (m.map encS).flatten.map AV.d := by
 unfold frL
 rw [List.take_length, Nat.sub_self, Nat.zero_mul, List.replicate_zero, List.append_nil, List.drop_zero, List.take_of_length_le (by rw [List.length_map, flE_len h]; exact Nat.le_refl _)]
 rfl
theorem frL_ok {m : List (List UInt8)} {i n : Nat} : (frL m i).all (AV.lt1 n) = true := by
 unfold frL
 rw [List.all_append, all_d, Bool.true_and, List.all_eq_true]
 intro x hx
 rw [(List.mem_replicate.1 hx).2]; rfl
def frA (m : List (List UInt8)) (i : Nat) : S := ⟨[(0, .d (encM m)), (4, .ptr 3 0), (6, .d (.it .i64 (i : Nat)))], [(3, .cells 6 [.ms 32 2 0 m.length m.length, .nl 36, .d (.it .i64 0), .nl 38, .nl 1, .d (.it .i64 0)]), (2, .cells (m.length * 32) (frL m i)), (0, .frame 1 [])], 4⟩
theorem frA_ok (m : List (List UInt8)) (i : Nat) : (frA m i).ok = true := by
 unfold frA
 simp only [S.ok, List.all_cons, List.all_nil, Ob.lt, frL_ok]; rfl
theorem zeros_rep (k : Nat) : ∀ n, zeros n (List.replicate k (D.it .u8 0)) = List.replicate (n * k) (D.it .u8 0)
 | 0 => by rw [Nat.zero_mul]; rfl
 | n + 1 => by
  show List.replicate k _ ++ zeros n _ = _
  rw [zeros_rep k n, List.replicate_append_replicate]
  congr 1; rw [Nat.add_mul]; omega
theorem frL_zero (m : List (List UInt8)) (l : List D) (hl : l = List.replicate 32 (D.it .u8 0)) {n : Nat} (hn : n = m.length) : (zeros n l).map toA = frL m 0 := by
 subst hl hn
 rw [zeros_rep, List.map_replicate]
 rfl
theorem ms_eq {a b : Nat} (h : a = b) : AV.ms 32 2 0 a a = AV.ms 32 2 0 b b := by rw [h]
theorem c6_eq {u v : AV} (h : u = v) {l : List AV} : Ob.cells 6 (u :: l) = Ob.cells 6 (v :: l) := by rw [h]
set_option maxHeartbeats 4000000 in
theorem rFrom_ok (m : List (List UInt8)) (hm : ImOK m) (h : 1 ≤ m.length ∧ m.length ≤ 65) : FnH Tryz.prog 8 [.d (encM m)] [] 0 [] (.tup [.ptr 3 0, .d (.it .i64 0)]) [(3, .cells 6 [.d (.fs 32 (m.map encS)), .d (.fs 36 []), .d (.it .i64 0), .d (.fs 38 []), .d (.fs 1 []), .d (.it .i64 0)])] 4 := by
 have hml' : (m.map encS).length = m.length := List.length_map ..
 refine FnH.intro ti_ok Tryz.func8 rfl Tryz.ntmps8 Tryz.call8 rfl rfl rfl (Nat.zero_le _) rfl rfl rfl rfl rfl (fun T => ?_)
 (repeat' ((conv=>whnf);first|with_reducible refine gA ?_|((with_reducible refine callE_id ?_); refine CallE.inl ?_) | with_reducible refine CallI.inl ti_ok i35 rfl ?_|(with_reducible first|refine gB ?_|refine gZ (fun x hx hu=>?_)|refine gY (fun x hx=>?_)|refine gE ?_|refine Both.mk ?_ ?_|refine gS (fun h=>?_) (fun h=>?_)|refine Spl.nt ?_|refine Spl.mk (fun h=>?_) (fun h=>?_))))
 all_goals first | (exfalso; omega) | skip
 refine loop_rule ti_ok (fun i : Nat => i ≤ m.length) (frA m) (fun i => m.length - i) 0 (Nat.zero_le _) ⟨And.intro rfl (And.intro rfl (And.intro rfl trivial)), And.intro (c6_eq (ms_eq hml')) (And.intro (cells_eq (by rw [← hml']; simp) (frL_zero m _ rfl (by rw [← hml']; rfl))) (And.intro rfl trivial)), frA_ok m 0⟩ ?_
 intro i hi
 have hfl := frL_len hm hi
 rcases Nat.lt_or_ge i m.length with hil | hil
 ·obtain ⟨x, hx⟩ := lt_get hil
  have hxs := hm x (List.mem_of_getElem? hx)
  (repeat' ((conv=>whnf);first|with_reducible refine gA ?_|with_reducible refine at_him (x := x) (by omega) hx ?_ | with_reducible refine AtA.mk' ?_|(with_reducible first|refine gB ?_|refine gZ (fun x hx hu=>?_)|refine gY (fun x hx=>?_)|refine gE ?_|refine Both.mk ?_ ?_|refine gS (fun h=>?_) (fun h=>?_)|refine Spl.nt ?_|refine Spl.mk (fun h=>?_) (fun h=>?_))))
  refine again (i + 1) hil (by first | omega | (dsimp only; omega)) (And.intro rfl (And.intro rfl (And.intro (it_eq (by omega)) trivial))) (And.intro rfl (And.intro (cells_eq rfl (frL_step2 hm hx (List.take_of_length_le (by rw [encS_len, hxs]; exact Nat.le_refl _)) (by show 0 + i * 32 = i * 32; omega) (by show 0 + i * 32 + 32 = i * 32 + 32; omega))) (And.intro rfl trivial))) (frA_ok ..)
 ·have hie : i = m.length := by omega
  subst hie
  (repeat' ((conv=>whnf);first|with_reducible refine gA ?_|(with_reducible first|refine gB ?_|refine gZ (fun x hx hu=>?_)|refine gY (fun x hx=>?_)|refine gE ?_|refine Both.mk ?_ ?_|refine gS (fun h=>?_) (fun h=>?_)|refine Spl.nt ?_|refine Spl.mk (fun h=>?_) (fun h=>?_))))
  refine ⟨⟨[(2, .ptr 3 0), (3, .d (.it .i64 0))], [(3, .cells 6 [.d (.fs 32 (m.map encS)), .d (.fs 36 []), .d (.it .i64 0), .d (.fs 38 []), .d (.fs 1 []), .d (.it .i64 0)]), (0, .frame 1 [])], 4⟩,
   Wk.trans (τ := ⟨[(2, .ptr 3 0), (3, .d (.it .i64 0))], [(3, .cells 6 [.ms 32 2 0 m.length m.length, .d (.fs 36 []), .d (.it .i64 0), .d (.fs 38 []), .d (.fs 1 []), .d (.it .i64 0)]), (2, .cells (m.length * 32) (frL m m.length)), (0, .frame 1 [])], 4⟩)
    (Wk.vwL (And.intro (Vw.eq rfl) (And.intro (Vw.eq rfl) trivial)) (And.intro (VwO.cells _ _ _ (.cons (Vw.eq rfl) rfl (.cons (Vw.nl' rfl) rfl (.cons (Vw.eq rfl) rfl (.cons (Vw.nl' rfl) rfl (.cons (Vw.nl' rfl) rfl (.cons (Vw.eq rfl) rfl .nil))))))) (And.intro (VwO.same _) (And.intro (VwO.same _) trivial))) (by simp only [S.ok, List.all_cons, List.all_nil, Ob.lt, frL_ok]; rfl))
    (Wk.frzMsOL 2 (m.length * 32) (frL m m.length) rfl (And.intro ⟨_, rfl, .inl rfl⟩ (And.intro ⟨_, rfl, .inl rfl⟩ trivial)) (And.intro ⟨rfl, _, rfl, MsO.first (.inr ⟨32, 0, m.length, m.length, m.map encS, rfl, rfl, by omega, hml', (fun x hx => by obtain ⟨y, hy, rfl⟩ := List.mem_map.1 hx; rw [encS_len]; exact hm y hy), frL_all m hm⟩) rfl (by simp [AV.sc])⟩ (And.intro ⟨rfl, _, rfl, .same _⟩ trivial)) rfl),
   rfl, And.intro rfl trivial, And.intro rfl trivial⟩
end Go.Proofs.YthknbpijaoljgaaGreatDoor
namespace Go.Proofs.YthknbpijaoljgaaGreatDoor
open Go.Sy
def LogW (l : List (List D)) : Prop := ∃ ws : List Wr, l = ws.map encEv ∧ ∀ w ∈ ws, w.s.length = 32
theorem log_it {d : Dk} (h : LogW d.log) (hM : Mnt d) : ∀ i, LogW (itD d i).log
 | 0 => h
 | i + 1 => by
  show LogW (stepD (itD d i)).log
  unfold stepD
  cases hw : nextW (some (itD d i)) with
  | none => exact log_it h hM i
  | some w =>
   obtain ⟨ws, e, h32⟩ := log_it h hM i
   refine ⟨ws ++ [{ w with e := (itD d i).ep }], ?_, fun x hx => ?_⟩
   ·show (itD d i).log ++ [_] = _
    rw [e, List.map_append]; rfl
   ·rcases List.mem_append.1 hx with hx | hx
    ·exact h32 x hx
    ·rw [List.mem_singleton.1 hx]
     exact (step_mnt (it_mnt hM i) hw).2.2.2.2
theorem logH (b : Bool) (bad : List Int) (d : Dk) (h : LogW d.log) (hs : d.safe.length ≠ 0) (hl : d.log.length ≤ 10000) : FnH Tryz.prog 19 [.ptr 0 0] (dObs b bad d) 4 [0] (.d (.fs 38 d.log)) (dObs b bad d) 4 := by
 obtain ⟨ws, e, h32⟩ := h
 by_cases h0 : ws = []
 ·have e : d.log = [] := by rw [e, h0]; rfl
  rw [e]
  exact logH_nil b bad d e hs
 ·exact logH_ok b bad d ws e hs (by rw [e, List.length_map] at hl; exact hl) h0 h32
def z0 (d : Dk) : Dk := ⟨0, d.safe, d.wait, d.log, d.ep⟩
set_option maxHeartbeats 4000000 in
theorem rMend_not (bad : List Int) (d : Dk) (hd : DkOK (some d)) (hR : InR d) (h0 : d.safe.length ≠ 0) (hM : ¬ mntP (imgD (some d))) : FnH Tryz.prog 16 [.ptr 0 0] (rObs bad d) 1 [0] (.tup [.d (.it .i64 0), .d (.it .i64 8)]) (rObs bad d) 1 := by
 have hm := rMount_ok bad d hd hR h0
 rw [if_neg (fun h => hM ((putWs_img hd).1 h))] at hm
 refine FnH.intro ti_ok Tryz.func16 rfl Tryz.ntmps16 Tryz.call16 rfl rfl rfl (Nat.le_refl _) rfl rfl rfl rfl rfl (fun T => ?_)
 (repeat' ((conv=>whnf);first|with_reducible refine gA ?_|((with_reducible refine callI_id ?_); refine CallI.byR (CallR.mk ⟨[.d (.fp 6 (rCells bad d))], _, And.intro ⟨6, _, by with_unfolding_all exact rfl, Nat.le_refl _, rfl, rfl⟩ trivial, hm, rfl, ?_⟩))|(with_reducible first|refine gB ?_|refine gZ (fun x hx hu=>?_)|refine gY (fun x hx=>?_)|refine gE ?_|refine Both.mk ?_ ?_|refine gS (fun h=>?_) (fun h=>?_)|refine Spl.nt ?_|refine Spl.mk (fun h=>?_) (fun h=>?_))))
 exact finH_now rfl (And.intro rfl trivial) (And.intro rfl (And.intro rfl trivial))
set_option maxHeartbeats 4000000 in
theorem rMend_nil : FnC Tryz.prog 16 [.d (.ot (.pointer none))] (.tup [.d (.it .i64 0), .d (.it .i64 8)]) := by
 have hm := rMount_nil
 refine FnC.intro ti_ok Tryz.func16 rfl Tryz.ntmps16 Tryz.call16 rfl (Nat.le_of_ble_eq_true rfl) rfl ?_
 (repeat' ((conv=>whnf);first|with_reducible refine gA ?_|((with_reducible refine callE_id ?_); refine CallE.con ⟨_, hm, ?_⟩)|(with_reducible first|refine gB ?_|refine gZ (fun x hx hu=>?_)|refine gY (fun x hx=>?_)|refine gE ?_|refine Both.mk ?_ ?_|refine gS (fun h=>?_) (fun h=>?_)|refine Spl.nt ?_|refine Spl.mk (fun h=>?_) (fun h=>?_))))
 rfl
set_option maxHeartbeats 4000000 in
theorem fail_nil (bad : List Int) : FnC Tryz.prog 14 [.d (.ot (.pointer none)), .d (.fs 1 (vI bad))] (.tup []) := by
 have hn : FnC Tryz.prog 45 [.d (.ot (.pointer none))] (.d (.bl true)) := none_ok none
 refine FnC.intro ti_ok Tryz.func14 rfl Tryz.ntmps14 Tryz.call14 rfl (Nat.le_of_ble_eq_true rfl) rfl ?_
 (repeat' ((conv=>whnf);first|with_reducible refine gA ?_|((with_reducible refine callE_id ?_); refine CallE.con ⟨_, hn, ?_⟩)|(with_reducible first|refine gB ?_|refine gZ (fun x hx hu=>?_)|refine gY (fun x hx=>?_)|refine gE ?_|refine Both.mk ?_ ?_|refine gS (fun h=>?_) (fun h=>?_)|refine Spl.nt ?_|refine Spl.mk (fun h=>?_) (fun h=>?_))))
 rfl
theorem mends (bad : List Int) (hbl : bad.length ≤ 30) (d : Dk) (hd : DkOK (some d)) (hR : InR d) (h0 : d.safe.length ≠ 0) (hl : d.wait.length ≤ 40) (hlg : d.log.length ≤ 40) (hnx : d.nx = 0) (hL : LogW d.log) :
  ∃ (n e : Int) (D : Dk), FnH Tryz.prog 15 [.ptr 0 0] (dObs true bad d) 4 [0] (.tup [.d (.it .i64 n), .d (.it .i64 e)]) (dObs true bad D) 4 ∧ FnH Tryz.prog 16 [.ptr 0 0] (rObs bad d) 1 [0] (.tup [.d (.it .i64 n), .d (.it .i64 e)]) (rObs bad D) 1 ∧ LogW D.log ∧ D.safe.length ≠ 0 ∧ D.log.length ≤ 10000 := by
 by_cases hM : mntP (imgD (some d))
 ·have hMn := mnt_of hd hM
  obtain ⟨i, hi88, hi, hj⟩ := it_end hMn
  have h88 := Nat.le_trans hi88 (mu_le _)
  have key : ∃ (k : Nat) (e : Bool), k ≤ i ∧ mdEnd bad d k e ∧ (∀ j, j < k → nextW (some (itD d j)) ≠ none) ∧ ∀ j : Nat, j < k → d.nx + (j : Nat) ∉ bad := by
   rcases first_bad bad d.nx i with h | ⟨J, h1, h2, h3⟩
   ·exact ⟨i, false, Nat.le_refl _, hi, hj, h⟩
   ·exact ⟨J, true, by omega, ⟨hj J h1, h2⟩, fun j hjJ => hj j (by omega), h3⟩
  obtain ⟨k, e, hk, he, hjk, hg⟩ := key
  have hmnt : ∀ d : Dk, Mnt d → d.wait.length ≤ 100000 → FnC Tryz.prog 46 [.d (.fp 6 (encDk d))] (.d (.bl true)) := fun d h hl => by
   have := mntd_ok d (dkOK_of h hl)
   rw [decide_eq_true (mnt_to h)] at this
   exact this
  have hx := mendB_ok next38_ok hmnt true bad d hMn ⟨by omega, by omega, by omega, by omega⟩ k (by omega) e he hjk hg
  have hy := rMend_ok bad (by omega) d hMn hR ⟨by omega, by omega, by omega, by omega⟩ k (by omega) e he hjk hg
  have hLk := log_it hL hMn k
  have hln := it_len d k
  have hMk := it_mnt hMn k
  refine ⟨_, _, _, hx, hy, ?_, ?_, ?_⟩
  ·cases e <;> exact hLk
  ·have : (mdRes e (itD d k)).safe.length = 65 := by cases e <;> exact hMk.n
   omega
  ·have : (mdRes e (itD d k)).log = (itD d k).log := by cases e <;> rfl
   rw [this]; omega
 ·exact ⟨0, 8, d, mend_not true bad d hd hM, rMend_not bad d hd hR h0 hM, hL, h0, by omega⟩
end Go.Proofs.YthknbpijaoljgaaGreatDoor
namespace Go.Proofs.YthknbpijaoljgaaGreatDoor
open Go.Sy
def rkI (m : List (List UInt8)) (ws : List Wr) (i : Nat) : Dk := ⟨(i : Nat), m, wtsI m ws i, (wtsI m ws i).map encEv, 0⟩
theorem rkI_step {m : List (List UInt8)} {ws : List Wr} {i : Nat} {x : Wr} (hx : ws[i]? = some x) (hw : x.s.length = 32) (hm : m.length ≤ 65) (hi : i ≤ 1000) : ∃ e : Int, FnH Tryz.prog 9 [.ptr 0 0, .d (.it .i64 x.a), .dg 32 (encS x.s), .dg 2 [.it .i64 x.k, .it .i64 x.i]] (rObs [] (rkI m ws i)) 1 [0] (.d (.it .i64 e)) (rObs [] (rkI m ws (i + 1))) 1 := by
 have hs := wtsI_step m hx
 have hl := wtsI_len m (ws.take i) i
 have hlen : (wtsI m ws i).length ≤ 1000 := by
  unfold wtsI wts
  rw [List.length_map]
  exact Nat.le_trans (List.length_filter_le _ _) (by rw [List.length_take]; omega)
 by_cases hr : 0 ≤ x.a ∧ x.a < m.length
 ·rw [if_pos hr] at hs
  have h := rWrite_yes [] (rkI m ws i) x.a x.s hw x.k x.i ⟨by show (0 : Int) ≤ (i : Nat); omega, by show ((i : Nat) : Int) ≤ 1000000; omega⟩ (by simp) (by show (wtsI m ws i).length ≤ _; omega) (by show ((wtsI m ws i).map encEv).length ≤ _; rw [List.length_map]; omega) hr (by simp)
  refine ⟨0, ?_⟩
  have e : wrD (rkI m ws i) ⟨x.a, x.s, x.k, x.i, 0⟩ = rkI m ws (i + 1) := by
   unfold wrD rkI
   rw [hs, List.map_append]
   simp
  rw [e] at h
  exact h
 ·rw [if_neg hr] at hs
  have h := rWrite_no [] (rkI m ws i) x.a x.s hw x.k x.i ⟨by show (0 : Int) ≤ (i : Nat); omega, by show ((i : Nat) : Int) ≤ 1000000; omega⟩ (by simp) (.inl hr)
  have e : tk (rkI m ws i) = rkI m ws (i + 1) := by
   unfold tk rkI
   rw [hs]
   simp
  rw [e] at h
  exact ⟨_, h⟩
theorem next_len {d : Option Dk} {w : Wr} (h : nextW d = some w) : w.s.length = 32 := by
 unfold nextW at h
 cases hp : probsD d with
 | nil => rw [hp] at h; cases h
 | cons p t =>
  rw [hp] at h
  have h := Option.some.inj h
  rw [← h]
  split
  ·exact cutK_s _ _ _
  ·rfl
theorem probs_nil0 : probsD none = [] := by decide +kernel
theorem nextW_nil : nextW none = none := by unfold nextW; rw [probs_nil0]
theorem next38_nil : FnC Tryz.prog 11 [.d (.ot (.pointer none))] (.tup [.dg 36 (encW w0), .d (.bl false)]) := by
 have hc : FnC Tryz.prog 37 [.d (.ot (.pointer none))] (.d (.fs 2 ((probsD none).map encP))) := check_ok none trivial
 rw [probs_nil0] at hc
 refine FnC.intro ti_ok Tryz.func11 rfl Tryz.ntmps11 Tryz.call11 rfl (Nat.le_of_ble_eq_true rfl) rfl ?_
 (repeat' ((conv=>whnf);first|with_reducible refine gA ?_|((with_reducible refine callE_id ?_); (refine CallE.con ⟨_, hc, ?_⟩))|(with_reducible first|refine gB ?_|refine gZ (fun x hx hu=>?_)|refine gY (fun x hx=>?_)|refine gE ?_|refine Both.mk ?_ ?_|refine gS (fun h=>?_) (fun h=>?_)|refine Spl.nt ?_|refine Spl.mk (fun h=>?_) (fun h=>?_))))
 rfl
theorem draw18_id {P : Program} {ti : Nat → Option Ty} {N : Nat} {ops : List Oper} {σ : S} {K : S → Prop} (h : DrawS P ti N 18 ops σ K) : DrawS P ti N 18 ops σ K := h
def lwA (m : List (List UInt8)) (ws : List Wr) (bad : List Int) (i : Nat) : S := ⟨[(0, .d (encM m)), (1, .d (.fs 36 (ws.map encW))), (2, .d (.fs 1 (vI bad))), (7, .ptr 8 0), (8, .ptr 15 0), (10, .d (.it .i64 (i : Nat)))],
  [(15, .cells 6 [.d (.fs 32 (m.map encS)), .d (.fs 36 ((wtsI m ws i).map encW)), .d (.it .i64 0), .d (.fs 38 ((wtsI m ws i).map encEv)), .d (.fs 1 []), .d (.it .i64 (i : Nat))]),
   (8, .cells 6 [.mp 11, .d (.it .i64 (ws.length : Nat)), .d (.fs 32 (m.map encS)), .ts 36 ((wts m.length ws).map encW) 9, .ts 38 ((wts m.length ws).map encEv) 10, .d (.it .i64 0)]), (9, .tail 38 true), (10, .tail 80 true), (11, .mp false false [.it .i64 0] [])], 16⟩
set_option maxHeartbeats 16000000 in
theorem law38m_ok (m : List (List UInt8)) (hm : ImOK m) (ws : List Wr) (hw : WsOK ws) (bad : List Int) : FnC Tryz.prog 3 [.d (encM m), .d (.fs 36 (ws.map encW)), .d (.fs 1 (vI bad))] (.d (.bl true)) := by
 have hml : (m.map encS).length = m.length := List.length_map ..
 have hwl : (ws.map encW).length = ws.length := List.length_map ..
 have hbl : (vI bad).length = bad.length := List.length_map ..
 have hk := knows38_ok
 by_cases hs : m.length ≤ 200 ∧ ws.length ≤ 40 ∧ bad.length ≤ 30
 ·by_cases hz : 1 ≤ m.length ∧ m.length ≤ 65
  ·have hd := diskH_ok m hm ws hw (by omega) hz
   have hr := rFrom_ok m hm hz
   have hOK : DkOK (some (dskD m ws)) := by
    have := dsk_OK (m := m) (ws := ws) hm hw (by omega)
    rw [show dskOf m ws = some _ from if_pos hz] at this
    exact this
   have hlw : (wts m.length ws).length ≤ 40 := by
    unfold wts
    rw [List.length_map]
    exact Nat.le_trans (List.length_filter_le _ _) (by omega)
   have hLW : LogW (dskD m ws).log := ⟨wts m.length ws, rfl, fun w hw' => by
    unfold wts at hw'
    obtain ⟨x, hx, rfl⟩ := List.mem_map.1 hw'
    exact hw x (List.mem_filter.1 hx).1⟩
   have hIR : InR (z0 (dskD m ws)) := fun w hw' => by
    have hw' : w ∈ wts m.length ws := hw'
    unfold wts at hw'
    obtain ⟨x, hx, rfl⟩ := List.mem_map.1 hw'
    exact of_decide_eq_true (List.mem_filter.1 hx).2
   have hS0 : (dskD m ws).safe.length ≠ 0 := by show m.length ≠ 0; omega
   obtain ⟨N, E, D, hx, hy, hLD, hSD, hlD⟩ := mends bad (by omega) (z0 (dskD m ws)) hOK hIR hS0 hlw (by show ((wts m.length ws).map encEv).length ≤ 40; rw [List.length_map]; exact hlw) rfl hLW
   have hlast : wtsI m ws ws.length = wts m.length ws := by unfold wtsI; rw [List.take_length]
   have hF : FnH Tryz.prog 10 [.ptr 0 0, .d (.fs 1 (vI bad))] (rObs [] (rkI m ws ws.length)) 1 [0] (.tup []) (rObs bad (z0 (dskD m ws))) 1 := by
    have h := rFail_ok [] bad (by omega) (rkI m ws ws.length)
    rw [show (⟨0, (rkI m ws ws.length).safe, (rkI m ws ws.length).wait, (rkI m ws ws.length).log, (rkI m ws ws.length).ep⟩ : Dk) = z0 (dskD m ws) by unfold rkI dskD z0; rw [hlast]] at h
    exact h
   have hfB := failH_ok false [] bad (dskD m ws) hS0 (by omega)
   have hN := next38_ok (dskD m ws) hOK
   have hW := with_ok m hm ws hw (by omega) (by omega)
   have hRN := refNext_ok (withF m ws) (with_OK hm hw) (some (dskD m ws)) (fun n hn => by
    have := rd_im m ws n hn
    rwa [show dskOf m ws = some (dskD m ws) from if_pos hz] at this) (fun n hn => by
    have := has_im m ws n hn
    rwa [show dskOf m ws = some (dskD m ws) from if_pos hz] at this)
   have hv : ∃ (w : Wr) (b : Bool), w.s.length = 32 ∧ nextV (nextW (some (dskD m ws))) = .tup [.dg 36 (encW w), .d (.bl b)] := by
    cases hq : nextW (some (dskD m ws)) with
    | none => exact ⟨w0, false, rfl, rfl⟩
    | some w => exact ⟨w, true, next_len hq, rfl⟩
   obtain ⟨w, b, hw32, hv⟩ := hv
   rw [hv] at hN hRN
   have hLg := logH true bad D hLD hSD hlD
   obtain ⟨lw, hle, hl32⟩ := hLD
   have hev := events_ok lw hl32 (by rw [hle, List.length_map] at hlD; omega)
   rw [← hle] at hev
   have hnE := num38_ok E
   obtain ⟨wa, wS, wk, wi, we⟩ := w
   obtain ⟨g, rfl⟩ := is32 hw32
   refine FnC.intro ti_ok Tryz.func3 rfl Tryz.ntmps3 Tryz.call3 rfl (Nat.le_of_ble_eq_true rfl) rfl ?_
   (repeat' ((conv=>whnf);first|with_reducible refine gA ?_|((with_reducible refine callE_id ?_); first | (refine CallE.con ⟨_, hk, ?_⟩) | refine CallE.inl ?_) | ((with_reducible refine callI_id ?_); first | refine CallI.byH hd [] (by with_unfolding_all exact rfl) ⟨rfl, by decide, rfl⟩ trivial rfl rfl ?_ | refine CallI.byH hr [] (by with_unfolding_all exact rfl) ⟨rfl, by decide, rfl⟩ trivial rfl rfl ?_)|(with_reducible first|refine gB ?_|refine gZ (fun x hx hu=>?_)|refine gY (fun x hx=>?_)|refine gE ?_|refine Both.mk ?_ ?_|refine gS (fun h=>?_) (fun h=>?_)|refine Spl.nt ?_|refine Spl.mk (fun h=>?_) (fun h=>?_))))
   conv => whnf
   refine LoopS.wk (τ := lwA m ws bad 0) (Wk.en ⟨And.intro rfl (And.intro rfl (And.intro rfl (And.intro rfl (And.intro rfl (And.intro rfl trivial))))), And.intro rfl (And.intro rfl (And.intro rfl (And.intro rfl (And.intro rfl trivial)))), rfl⟩) ?_
   refine loop_ruleW ti_ok (fun i : Nat => i ≤ ws.length) (lwA m ws bad) (fun i => ws.length - i) 0 (Nat.zero_le _) (Wk.en ⟨And.intro rfl (And.intro rfl (And.intro rfl (And.intro rfl (And.intro rfl (And.intro rfl trivial))))), And.intro rfl (And.intro rfl (And.intro rfl (And.intro rfl (And.intro rfl trivial)))), rfl⟩) ?_
   intro i hi
   rcases Nat.lt_or_ge i ws.length with hil | hil
   ·obtain ⟨x, hxx⟩ := lt_get hil
    have hxs := hw x (List.mem_of_getElem? hxx)
    obtain ⟨e, hWr⟩ := rkI_step (m := m) hxx hxs (by omega) (by omega)
    obtain ⟨xa, xS, xk, xi, xe⟩ := x
    obtain ⟨gx, rfl⟩ := is32 hxs
    (repeat' ((conv=>whnf);first|with_reducible refine gA ?_|with_reducible refine at_hm hxx ?_ | with_reducible refine AtA.mk' ?_ | ((with_reducible refine callI_id ?_); refine CallI.byH hWr [15] (by with_unfolding_all exact rfl) ⟨rfl, by decide, by with_unfolding_all exact rfl⟩ (And.intro rfl trivial) rfl rfl ?_)|(with_reducible first|refine gB ?_|refine gZ (fun x hx hu=>?_)|refine gY (fun x hx=>?_)|refine gE ?_|refine Both.mk ?_ ?_|refine gS (fun h=>?_) (fun h=>?_)|refine Spl.nt ?_|refine Spl.mk (fun h=>?_) (fun h=>?_))))
    refine ⟨i + 1, hil, by first | omega | (dsimp only; omega), Wk.en ⟨And.intro rfl (And.intro rfl (And.intro rfl (And.intro rfl (And.intro rfl (And.intro (it_eq (by omega)) trivial))))), And.intro rfl (And.intro rfl (And.intro rfl (And.intro rfl (And.intro rfl trivial)))), rfl⟩⟩
   ·have hie : i = ws.length := by omega
    subst hie
    (repeat' ((conv=>whnf);first|with_reducible refine gA ?_|((with_reducible refine draw18_id ?_); refine DrawS.mid ⟨[(6, .d (.bl true))], [], 30⟩ (draw_all ti_ok mixed [] (by decide +kernel) ?_) ?_) | ((with_reducible refine wk_id ?_); exact Wk.en ⟨And.intro rfl trivial, trivial, rfl⟩) | with_reducible exact trivial | with_reducible refine Br.mk ?_ ?_ | ((with_reducible refine spl_idT ?_); refine Spl.no (neqT (eqDs_it _ rfl)) ?_) | with_reducible refine AtA.mk' ?_ | ((with_reducible refine callE_id ?_); first | (refine CallE.con ⟨_, hW, ?_⟩) | (refine CallE.con ⟨_, hRN, ?_⟩) | (refine CallE.con ⟨_, hnE, ?_⟩) | (refine CallE.con ⟨_, hev, ?_⟩) | refine CallE.inl ?_) | ((with_reducible refine callI_id ?_); first | refine CallI.byH hLg [8, 9, 10, 27] (by with_unfolding_all exact rfl) ⟨rfl, by decide, by with_unfolding_all exact rfl⟩ (And.intro rfl (And.intro rfl (And.intro rfl (And.intro rfl trivial)))) rfl rfl ?_ | refine CallI.byH hfB [8, 9, 10, 11] (by with_unfolding_all exact rfl) ⟨rfl, by decide, by with_unfolding_all exact rfl⟩ (And.intro rfl (And.intro rfl (And.intro rfl (And.intro rfl trivial)))) rfl rfl ?_ | refine CallI.byH hx [8, 9, 10, 27] (by with_unfolding_all exact rfl) ⟨rfl, by decide, by with_unfolding_all exact rfl⟩ (And.intro rfl (And.intro rfl (And.intro rfl (And.intro rfl trivial)))) rfl rfl ?_ | refine CallI.byH hy [15] (by with_unfolding_all exact rfl) ⟨rfl, by decide, by with_unfolding_all exact rfl⟩ (And.intro rfl trivial) rfl rfl ?_ | refine CallI.byH hF [15] (by with_unfolding_all exact rfl) ⟨rfl, by decide, by with_unfolding_all exact rfl⟩ (And.intro rfl trivial) rfl rfl ?_ | refine CallI.byR (CallR.mk ⟨[.d (.fp 6 (encDk (dskD m ws)))], _, And.intro ⟨6, _, by with_unfolding_all exact rfl, Nat.le_refl _, rfl, rfl⟩ trivial, hN, by with_unfolding_all exact rfl, ?_⟩))|(with_reducible first|refine gB ?_|refine gZ (fun x hx hu=>?_)|refine gY (fun x hx=>?_)|refine gE ?_|refine Both.mk ?_ ?_|refine gS (fun h=>?_) (fun h=>?_)|refine Spl.nt ?_|refine Spl.mk (fun h=>?_) (fun h=>?_))))
    all_goals first | rfl | (exfalso; rw [beq_self_eq_true] at h; cases h)
  ·have kd := disk_ok m hm ws hw (by omega) (by omega)
   rw [show dskOf m ws = none from if_neg hz] at kd
   have kd : FnC Tryz.prog 7 [.d (encM m), .d (.fs 36 (ws.map encW))] (.d (.ot (.pointer none))) := kd
   have kr := rFrom_no m hz
   have hN := next38_nil
   have hW := with_ok m hm ws hw (by omega) (by omega)
   have hRN := refNext_ok (withF m ws) (with_OK hm hw) none (fun n hn => by
    have := rd_im m ws n hn
    rwa [show dskOf m ws = none from if_neg hz] at this) (fun n hn => by
    have := has_im m ws n hn
    rwa [show dskOf m ws = none from if_neg hz] at this)
   rw [nextW_nil] at hRN
   have hRN : FnC Tryz.prog 12 [.d (encM (withF m ws))] (.tup [.dg 36 (encW w0), .d (.bl false)]) := hRN
   have k1 := fail_nil bad
   have k2 := mend_nil
   have k3 := rMend_nil
   have k4 := num38_ok 8
   refine FnC.intro ti_ok Tryz.func3 rfl Tryz.ntmps3 Tryz.call3 rfl (Nat.le_of_ble_eq_true rfl) rfl ?_
   (repeat' ((conv=>whnf);first|with_reducible refine gA ?_|((with_reducible refine draw18_id ?_); refine DrawS.mid ⟨[(6, .d (.bl true))], [], 30⟩ (draw_all ti_ok mixed [] (by decide +kernel) ?_) ?_) | ((with_reducible refine wk_id ?_); exact Wk.en ⟨And.intro rfl trivial, trivial, rfl⟩) | with_reducible exact trivial | with_reducible refine Br.mk ?_ ?_ | ((with_reducible refine spl_idT ?_); refine Spl.no (neqT (eqDs_it _ rfl)) ?_) | with_reducible refine AtA.mk' ?_ | ((with_reducible refine callE_id ?_); first | (refine CallE.con ⟨_, hk, ?_⟩) | (refine CallE.con ⟨_, kd, ?_⟩) | (refine CallE.con ⟨_, kr, ?_⟩) | (refine CallE.con ⟨_, hN, ?_⟩) | (refine CallE.con ⟨_, hW, ?_⟩) | (refine CallE.con ⟨_, hRN, ?_⟩) | (refine CallE.con ⟨_, k1, ?_⟩) | (refine CallE.con ⟨_, k2, ?_⟩) | (refine CallE.con ⟨_, k3, ?_⟩) | (refine CallE.con ⟨_, k4, ?_⟩))|(with_reducible first|refine gB ?_|refine gZ (fun x hx hu=>?_)|refine gY (fun x hx=>?_)|refine gE ?_|refine Both.mk ?_ ?_|refine gS (fun h=>?_) (fun h=>?_)|refine Spl.nt ?_|refine Spl.mk (fun h=>?_) (fun h=>?_))))
   all_goals rfl
 ·refine FnC.intro ti_ok Tryz.func3 rfl Tryz.ntmps3 Tryz.call3 rfl (Nat.le_of_ble_eq_true rfl) rfl ?_
  by_cases h1 : m.length ≤ 200
  all_goals by_cases h2 : ws.length ≤ 40
  all_goals (repeat' ((conv=>whnf);first|with_reducible refine gA ?_|((with_reducible refine callE_id ?_); (refine CallE.con ⟨_, hk, ?_⟩))|(with_reducible first|refine gB ?_|refine gZ (fun x hx hu=>?_)|refine gY (fun x hx=>?_)|refine gE ?_|refine Both.mk ?_ ?_|refine gS (fun h=>?_) (fun h=>?_)|refine Spl.nt ?_|refine Spl.mk (fun h=>?_) (fun h=>?_))))
  all_goals first | rfl | (exfalso; omega)
end Go.Proofs.YthknbpijaoljgaaGreatDoor
namespace Go.Proofs.YthknbpijaoljgaaGreatDoor
open Go.Sy Go.ChangeShapes Go.WideShapes Go.ChangeAt Go.RowKit
def plainT : List Nat := [24, 5, 34, 22, 3, 36, 38, 23]
theorem closed : closedB ti plainT = true := by decide +kernel
theorem shp_byte {n : Nat} {ds : List D} (h : Shp ti n 5 ds) : ∃ b : UInt8, ds = [.it .u8 b.toNat] := by
 match n, h with
 | n + 1, h =>
  obtain ⟨z, rfl, h1, h2⟩ := h
  have h1' : (0 : Int) ≤ z := h1
  have h2' : z ≤ 255 := h2
  refine ⟨by8e z, ?_⟩
  rw [by8e_ok (by omega)]
theorem shp_bytes {n : Nat} : ∀ {m : Nat} {ds : List D}, ShpN (Shp ti n 5) m ds → ∃ s : List UInt8, s.length = m ∧ ds = encS s
 | 0, ds, h => ⟨[], rfl, h⟩
 | m + 1, ds, h => by
  obtain ⟨a, b, rfl, h1, h2⟩ := h
  obtain ⟨c, rfl⟩ := shp_byte h1
  obtain ⟨s, hs, rfl⟩ := shp_bytes h2
  exact ⟨c :: s, by simp [hs], rfl⟩
theorem shp_sec {n : Nat} {ds : List D} (h : Shp ti n 34 ds) : ∃ s : List UInt8, s.length = 32 ∧ ds = encS s := by
 match n, h with
 | n + 1, h => exact shp_bytes (n := n) (m := 32) h
theorem shp_secs {n : Nat} : ∀ {es : List (List D)}, (∀ x ∈ es, Shp ti n 34 x) → ∃ m : List (List UInt8), ImOK m ∧ es = m.map encS
 | [], _ => ⟨[], (fun s hs => by cases hs), rfl⟩
 | x :: es, h => by
  obtain ⟨s, hs, rfl⟩ := shp_sec (h x List.mem_cons_self)
  obtain ⟨m, hm, rfl⟩ := shp_secs (fun y hy => h y (List.mem_cons_of_mem _ hy))
  refine ⟨s :: m, fun t ht => ?_, rfl⟩
  rcases List.mem_cons.1 ht with rfl | ht
  ·exact hs
  ·exact hm t ht
theorem shp_img {n : Nat} {x : D} (h : Shp ti n 22 [x]) : ∃ m : List (List UInt8), ImOK m ∧ x = encM m := by
 match n, h with
 | n + 1, h =>
  obtain ⟨es, hl, _, he⟩ := h
  obtain ⟨m, hm, rfl⟩ := shp_secs he
  exact ⟨m, hm, by simpa using hl⟩
theorem shp_int {n : Nat} {ds : List D} (h : Shp ti n 3 ds) : ∃ z : Int, ds = [.it .i64 z] := by
 match n, h with
 | n + 1, h =>
  obtain ⟨z, rfl, _⟩ := h
  exact ⟨z, rfl⟩
theorem shp_wr {n : Nat} {ds : List D} (h : Shp ti n 38 ds) : ∃ w : Wr, w.s.length = 32 ∧ ds = encW w := by
 match n, h with
 | n + 1, h =>
  obtain ⟨a, b, rfl, ha, c, d, rfl, hc, e, f, rfl, he, g, q, rfl, hg, rfl⟩ := h
  obtain ⟨za, rfl⟩ := shp_int ha
  obtain ⟨s, hs, rfl⟩ := shp_sec hc
  obtain ⟨ze, rfl⟩ := shp_int hg
  match n, he with
  | n + 1, he =>
   obtain ⟨k, i, rfl, hk, j, r, rfl, hj, rfl⟩ := he
   obtain ⟨zk, rfl⟩ := shp_int hk
   obtain ⟨zj, rfl⟩ := shp_int hj
   exact ⟨⟨za, s, zk, zj, ze⟩, hs, by simp [encW]⟩
theorem shp_wrs {n : Nat} : ∀ {es : List (List D)}, (∀ x ∈ es, Shp ti n 38 x) → ∃ l : List Wr, WsOK l ∧ es = l.map encW
 | [], _ => ⟨[], (fun s hs => by cases hs), rfl⟩
 | x :: es, h => by
  obtain ⟨s, hs, rfl⟩ := shp_wr (h x List.mem_cons_self)
  obtain ⟨m, hm, rfl⟩ := shp_wrs (fun y hy => h y (List.mem_cons_of_mem _ hy))
  refine ⟨s :: m, fun t ht => ?_, rfl⟩
  rcases List.mem_cons.1 ht with rfl | ht
  ·exact hs
  ·exact hm t ht
theorem shp_ws {n : Nat} {x : D} (h : Shp ti n 23 [x]) : ∃ l : List Wr, WsOK l ∧ x = .fs 36 (l.map encW) := by
 match n, h with
 | n + 1, h =>
  obtain ⟨es, hl, _, he⟩ := h
  obtain ⟨m, hm, rfl⟩ := shp_wrs he
  exact ⟨m, hm, by simpa using hl⟩
theorem shp_ints {n : Nat} : ∀ {es : List (List D)}, (∀ x ∈ es, Shp ti n 3 x) → ∃ l : List Int, es = vI l
 | [], _ => ⟨[], rfl⟩
 | x :: es, h => by
  obtain ⟨z, rfl⟩ := shp_int (h x List.mem_cons_self)
  obtain ⟨m, rfl⟩ := shp_ints (fun y hy => h y (List.mem_cons_of_mem _ hy))
  exact ⟨z :: m, rfl⟩
theorem shp_is {n : Nat} {x : D} (h : Shp ti n 24 [x]) : ∃ l : List Int, x = .fs 1 (vI l) := by
 match n, h with
 | n + 1, h =>
  obtain ⟨es, hl, _, he⟩ := h
  obtain ⟨m, rfl⟩ := shp_ints he
  exact ⟨m, by simpa using hl⟩
theorem own : ownKnob Tryz.prog.godebug = none := by kernel_rfl
theorem laidOut : laidOutB Tryz.prog = true := by kernel_rfl
namespace tells
theorem contract (H : Type) (enc : TypeId × Value → H) (W : World) (base : Nat) (args : Array Value) (ds gs : List (DataW H)) (before : List MemPlace)
  (hval : ∀ (j : Nat) t v, Tryz.f3.params[j]? = some t → args[j]? = some v → Value.okWide Tryz.prog W .any base t v)
  (hW : DataW.Whole enc Tryz.prog Tryz.f3.params.toList Rows.mendTellsSpec.vars false W args.toList ds gs before) :
  Calls Tryz.prog 3 args W fun e W' => ∃ v, e = .returned v ∧ Rows.mendTellsSpec.post enc Tryz.prog Tryz.f3 false true false false W args v W' := by
 have hW' := hW
 obtain ⟨p, q, hA, hV, rfl, _, _⟩ := hW
 have hA' : DataW.TrodAll enc Tryz.prog W 0 (fun _ => true) true [22, 23, 24] args.toList ds p := hA
 obtain ⟨v0, _, d0, _, p0, _, e0, rfl, _, h0, hA1⟩ := trodAll_cons hA'
 obtain ⟨v1, _, d1, _, p1, _, rfl, rfl, _, h1, hA2⟩ := trodAll_cons hA1
 obtain ⟨v2, _, d2, _, p2, _, rfl, rfl, _, h2, hA3⟩ := trodAll_cons hA2
 obtain ⟨rfl, rfl, _⟩ := trodAll_nil hA3
 obtain rfl : args = #[v0, v1, v2] := by cases args; simp_all
 obtain ⟨rfl, rfl⟩ := trodVars_none hV
 obtain ⟨n0, x0, s0, a0⟩ := arg_one ti_ok closed (t := 22) (by decide) (ty := _) rfl rfl (hval 0 22 v0 rfl rfl) h0
 obtain ⟨n1, x1, s1, a1⟩ := arg_one ti_ok closed (t := 23) (by decide) (ty := _) rfl rfl (hval 1 23 v1 rfl rfl) h1
 obtain ⟨n2, x2, s2, a2⟩ := arg_one ti_ok closed (t := 24) (by decide) (ty := _) rfl rfl (hval 2 24 v2 rfl rfl) h2
 obtain ⟨y0, g0, rfl⟩ := shp_img s0
 obtain ⟨y1, g1, rfl⟩ := shp_ws s1
 obtain ⟨y2, rfl⟩ := shp_is s2
 refine (FnC.enter (law38m_ok y0 g0 y1 g1 y2) (Tryz.call3 _ _) (fun b hb => by cases hb) rfl ?_).mono ?_
 ·intro j hj
  match j, hj with
  | 0, _ => exact a0
  | 1, _ => exact a1
  | 2, _ => exact a2
 ·rintro e W' ⟨rfl, hB⟩
  exact ⟨_, rfl, law_post hW' rfl rfl rfl rfl rfl Tryz.underlying4 laidOut (by decide +kernel) hB⟩
noncomputable def wit : Array Value := #[.slice none 0 0, .slice none 0 0, .slice none 0 0]
noncomputable def laidWorld (os : Os) : World :=
 { World.holding Tryz.prog os ⟨#[], #[], []⟩ with heap := laidHeap (World.holding Tryz.prog os ⟨#[], #[], []⟩).heap [(2, Rows.laid_unicode_utf8_acceptRanges), (1, Rows.laid_unicode_utf8_first)] }
theorem laid_met (os : Os) : laidMet Tryz.prog Rows.mendTellsRow.laid ((laidWorld os).forCall (fun _ _ => 0) ⟨#[], wit, []⟩).memory :=
 laidMet_of_run' 8 (by kernel_rfl) (by kernel_rfl)
theorem reads (os : Os) {H : Type} (enc : TypeId × Value → H) : ∃ places, DataW.whole enc Tryz.prog ((laidWorld os).forCall (fun _ _ => 0) ⟨#[], wit, []⟩).memory Tryz.f3.params.toList Rows.mendTellsSpec.vars false wit.toList 8 = some ([.nil, .nil, .nil], [], places) :=
 ⟨[], by kernel_rfl⟩
theorem lifted (os : Os) (started : os.Started) (H : Type) (enc : TypeId × Value → H) (F : Stop.Interp) :
  ReturnsInHanded {} Tryz.checked os 3 .any ((OpenSpec.ofChange Rows.mendTellsSpec).preRow enc Tryz.prog Tryz.f3 Rows.mendTellsRow.domain false Rows.mendTellsRow.laid) (((OpenSpec.ofChange Rows.mendTellsSpec).at F).post enc Tryz.prog Tryz.f3 false true false false) := by
 obtain ⟨places, hx⟩ := reads os enc
 refine returnsInHanded_of_row (C := Tryz.checked) (s := OpenSpec.ofChange Rows.mendTellsSpec) own started (by kernel_rfl) Tryz.func3
  (witness_row_at (enc := enc) (C := Tryz.checked) false (laidWorld os) wit rfl (by kernel_rfl) (by kernel_rfl) (by kernel_rfl)
   (OpenSpec.preRow_of_cond 8 hx (by kernel_rfl) (fun k hk => by cases hk) (by kernel_rfl) (laid_met os))) ?_
 intro W base args ds gs before hval hW _ _ _ _ _ _
 exact contract H enc W base args ds gs before hval hW
theorem said : Rows.MendTellsSaid :=
 OpenClaim.holds_of_cond 3 Tryz.f3 rfl rfl rfl rfl rfl rfl rfl ⟨rfl, rfl, rfl, rfl, rfl⟩ rfl rfl rfl rfl rfl (by kernel_rfl) Tryz.func3 (by kernel_rfl)
  (of_decide_eq_true (by kernel_rfl)) (by unfold Func.isWrapper; first | (rw [if_pos (by decide +kernel)]; kernel_rfl) | (rw [if_neg (by decide +kernel)]; exact ⟨rfl, rfl⟩))
  (fun os started H enc _ F => by rw [OpenClaim.pre_eq_preRow]; exact lifted os started H enc F)
theorem plain (f : FuncId) (fn : Func) (hf : Tryz.pinned.checked.prog.funcNamed "flotsam/flotsamlaw38.MendTells" = some f) (hfn : Tryz.pinned.checked.prog.funcs[f]? = some fn) :
  false = Tryz.pinned.checked.prog.looks [] ∧ ∀ (j : Nat) t, fn.params[j]? = some t → Tryz.pinned.checked.prog.wantsStandIn t = false := by
 obtain rfl : f = 3 := Option.some.inj ((show Tryz.prog.funcNamed "flotsam/flotsamlaw38.MendTells" = some 3 by kernel_rfl).symm.trans hf) |>.symm
 obtain rfl : fn = Tryz.f3 := (Option.some.inj (Tryz.func3.symm.trans hfn)).symm
 refine ⟨by kernel_rfl, fun j t ht => ?_⟩
 have hall : ∀ t ∈ Tryz.f3.params, Tryz.prog.wantsStandIn t = false := by decide +kernel
 exact hall t (Array.mem_of_getElem? ht)
theorem card : Rows.MendTellsCardSaid :=
 Claim7.holds_tied_plain_at .later [] _ _ _ _ said (fun _ h => by cases h) (by kernel_rfl) (fun _ h => by cases h) mendTells_row_tie rfl ⟨rfl, rfl⟩ (by kernel_rfl) rfl plain (by kernel_rfl)
end tells
end Go.Proofs.YthknbpijaoljgaaGreatDoor
