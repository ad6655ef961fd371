/- Contracts of the functions that the law reaches, and the law. Conditions: none. -/
import Derived.Test.YtijdbjjkfkjihaaGreatDoorKD
import Derived.Test.YtijdbjjkfkjihaaGreatDoorKA
import Derived.Test.YtijdbjjkfkjihaaGreatDoorKE
import Derived.Test.YtijdbjjkfkjihaaGreatDoorKF
import Derived.Test.YtijdbjjkfkjihaaGreatDoorSD
import Derived.Test.YtijdbjjkfkjihaaGreatDoorSC
import Derived.Test.YtijdbjjkfkjihaaGreatDoorCards
import Derived.Test.YtijdbjjkfkjihaaGreatDoorTie
set_option linter.all false
/- What is at a path. Conditions: none. -/
namespace Go.Proofs.YtijdbjjkfkjihaaGreatDoor
open Go.Sy
set_option maxRecDepth 100000
set_option linter.all false
def stepV (f : Int → List UInt8) (n : Int) (s : List UInt8) : Int × Int := if (inoAt f n).k = 2 then (match fndK f n s with | none => (0, 4) | some k => ((entAt f (k : Nat)).t, 0)) else (0, 6)
def lkp (f : Int → List UInt8) : List (List UInt8) → Int → Int × Int
  | [], n => (n, 0)
  | s :: t, n => if (stepV f n s).2 = 0 then lkp f t (stepV f n s).1 else (0, (stepV f n s).2)
def lookP (f : Int → List UInt8) (p : List UInt8) : Int × Int := if (splitP p).2 = 0 then lkp f (splitP p).1 0 else (0, (splitP p).2)
end Go.Proofs.YtijdbjjkfkjihaaGreatDoor

/- A disk and an image with writes over it read alike. Conditions: none. -/
namespace Go.Proofs.YtijdbjjkfkjihaaGreatDoor
open Go.Sy
set_option maxRecDepth 100000
set_option linter.all false
theorem lastAt_snoc (n : Int) (l : List Wr) (x : Wr) : lastAt n (l ++ [x]) = if x.a = n then some x.s else lastAt n l := by
  unfold lastAt
  rw [List.reverse_append]
  simp only [List.reverse_cons, List.reverse_nil, List.nil_append, List.singleton_append, List.find?_cons]
  by_cases h : x.a = n
  · simp [h]
  · simp [h]
theorem read_eq (m : List (List UInt8)) : ∀ (k : Nat) (ws : List Wr), ws.length = k → ∀ n : Int, 0 ≤ n → n < m.length →
    (match lastAt n (wts m.length ws) with | some s => s | none => m.getD n.toNat zeroS) = imS (putWs m ws) n := by
  intro k
  induction k with
  | zero =>
    intro ws hk n h0 h1
    obtain rfl := List.length_eq_zero_iff.1 hk
    rfl
  | succ k ih =>
    intro ws hk n h0 h1
    obtain ⟨t, x, rfl⟩ : ∃ t x, ws = t ++ [x] := ⟨ws.dropLast, ws.getLast (by intro h; rw [h] at hk; cases hk), (List.dropLast_concat_getLast _).symm⟩
    have ht : t.length = k := by simpa using hk
    have ih' := ih t ht n h0 h1
    have hp : putWs m (t ++ [x]) = putW (putWs m t) x := by unfold putWs; rw [List.foldl_append]; rfl
    have hw : wts m.length (t ++ [x]) = if 0 ≤ x.a ∧ x.a < m.length then wts m.length t ++ [{ x with e := 0 }] else wts m.length t := by
      unfold wts
      rw [List.filter_append, List.map_append]
      by_cases h : 0 ≤ x.a ∧ x.a < m.length
      · rw [if_pos h]
        have : okW m.length x = true := decide_eq_true h
        simp [this]
      · rw [if_neg h]
        have : okW m.length x = false := decide_eq_false h
        simp [this]
    rw [hp, hw]
    have hl := putWs_len m t
    by_cases h : 0 ≤ x.a ∧ x.a < m.length
    · rw [if_pos h, lastAt_snoc]
      unfold putW
      rw [hl, if_pos h]
      by_cases hn : x.a = n
      · rw [if_pos (by simpa using hn)]
        unfold imS
        rw [hn]
        show x.s = ((putWs m t).set n.toNat x.s).getD n.toNat zeroS
        rw [List.getD_eq_getElem?_getD, List.getElem?_set_self (by rw [hl]; omega)]; rfl
      · rw [if_neg (by simpa using hn), ih']
        unfold imS
        rw [List.getD_eq_getElem?_getD, List.getD_eq_getElem?_getD, List.getElem?_set_ne (by omega)]
    · rw [if_neg h]
      unfold putW
      rw [hl, if_neg h]
      exact ih'
theorem rd_im (m : List (List UInt8)) (ws : List Wr) (n : Int) (h0 : 0 ≤ n) : rdS (dskOf m ws) n = imS (withF m ws) n := by
  unfold dskOf withF
  by_cases h : 1 ≤ m.length ∧ m.length ≤ 65
  · rw [if_pos h, if_pos h]
    simp only [rdS]
    by_cases hn : 0 ≤ n ∧ n < m.length
    · rw [if_pos hn]; exact read_eq m _ ws rfl n hn.1 hn.2
    · rw [if_neg hn]
      unfold imS
      rw [List.getD_eq_getElem?_getD, List.getElem?_eq_none (by rw [putWs_len]; omega)]; rfl
  · rw [if_neg h, if_neg h]
    unfold imS
    simp [rdS]
theorem dsk_OK {m : List (List UInt8)} {ws : List Wr} (hm : ImOK m) (hw : WsOK ws) (hwl : ws.length ≤ 1000) : DkOK (dskOf m ws) := by
  unfold dskOf
  split
  · rename_i h
    refine ⟨hm, fun w hw' => ?_, h.2, ?_⟩
    · have hw' : w ∈ (ws.filter (okW m.length)).map fun w => { w with e := 0 } := hw'
      obtain ⟨x, hx, rfl⟩ := List.mem_map.1 hw'
      exact hw x (List.mem_filter.1 hx).1
    · show ((ws.filter (okW m.length)).map _).length ≤ 100000
      rw [List.length_map]
      have := List.length_filter_le (okW m.length) ws
      omega
  · trivial
theorem putWs_ok {m : List (List UInt8)} (hm : ImOK m) : ∀ {ws : List Wr}, WsOK ws → ImOK (putWs m ws) := by
  intro ws
  induction ws generalizing m with
  | nil => intro _; exact hm
  | cons x t ih =>
    intro hw
    refine ih (m := putW m x) (fun s hs => ?_) (fun w hw' => hw w (List.mem_cons_of_mem _ hw'))
    unfold putW at hs
    split at hs
    · rcases List.mem_or_eq_of_mem_set hs with hs | rfl
      · exact hm s hs
      · exact hw x List.mem_cons_self
    · exact hm s hs
theorem with_OK {m : List (List UInt8)} {ws : List Wr} (hm : ImOK m) (hw : WsOK ws) : ImOK (withF m ws) := by
  unfold withF
  split
  · exact putWs_ok hm hw
  · intro s hs; cases hs
theorem inoAt_eq {f g : Int → List UInt8} (h : ∀ n : Int, 0 ≤ n → f n = g n) (n : Int) : inoAt f n = inoAt g n := by
  unfold inoAt
  split
  · rw [h _ (by omega)]
  · rfl
theorem entAt_eq {f g : Int → List UInt8} (h : ∀ n : Int, 0 ≤ n → f n = g n) (n : Int) : entAt f n = entAt g n := by
  unfold entAt
  split
  · rw [h _ (by omega)]
  · rfl
end Go.Proofs.YtijdbjjkfkjihaaGreatDoor

/- The law. Conditions: none. -/
namespace Go.Proofs.YtijdbjjkfkjihaaGreatDoor
open Go.Sy
set_option maxRecDepth 100000
set_option linter.all false
def folderS : List UInt8 := [2, 0, 0, 0, 0, 0, 0, 0, 0, 0, 0, 0, 0, 0, 0, 0, 0, 0, 0, 0, 0, 0, 0, 0, 0, 0, 0, 0, 0, 0, 0, 0]
def emptyM : List (List UInt8) := superS :: folderS :: List.replicate 63 zeroS
def k1S : List UInt8 := [1, 0, 2, 1, 0, 0, 0, 0, 0, 0, 0, 0, 0, 0, 0, 0, 97, 0, 0, 0, 0, 0, 0, 0, 0, 0, 0, 0, 0, 0, 0, 0]
def k2S : List UInt8 := [1, 0, 0, 0, 0, 0, 0, 0, 0, 0, 0, 0, 0, 0, 0, 0, 0, 0, 0, 0, 0, 0, 0, 0, 0, 0, 0, 0, 0, 0, 0, 0]
def kW : List Wr := [⟨17, k1S, 0, 0, 0⟩, ⟨3, k2S, 0, 0, 0⟩]
theorem em_ok : ImOK emptyM := by
  intro s hs
  simp only [emptyM, List.mem_cons, List.mem_replicate] at hs
  rcases hs with rfl | rfl | ⟨_, rfl⟩ <;> rfl
theorem empty_ok : FnC Tryz.prog 27 [] (.d (encM emptyM)) := by
  have hs := refSuper_ok
  refine FnC.intro ti_ok Tryz.func27 rfl Tryz.ntmps27 Tryz.call27 rfl (Nat.le_of_ble_eq_true rfl) rfl ?_
  (repeat' ((conv=>whnf);first|with_reducible refine gA ?_|((with_reducible refine callE_id ?_); (refine CallE.con ⟨_, hs, ?_⟩))|(with_reducible first|refine gB ?_|refine gZ (fun x hx hu=>?_)|refine gY (fun x hx=>?_)|refine gE ?_|refine Both.mk ?_ ?_|refine gS (fun h=>?_) (fun h=>?_)|refine Spl.nt ?_|refine Spl.mk (fun h=>?_) (fun h=>?_))))
  refine ⟨emptyM.map encS, ⟨?_, ?_, ?_, ?_⟩, ?_⟩
  · exact Nat.le_of_ble_eq_true (by kernel_rfl)
  · kernel_rfl
  · intro x hx
    obtain ⟨s, hs, rfl⟩ := List.mem_map.1 hx
    rw [encS_len]; exact em_ok s hs
  · kernel_rfl
  · rfl
def kD : Option Dk := dskOf emptyM kW
theorem f1 : lookP (rdS kD) [47, 97] = (2, 0) := by decide +kernel
theorem f2 : fndK (rdS kD) 0 [97] = some 0 := by decide +kernel
theorem f3 : lookP (rdS kD) [47, 98] = (0, 4) := by decide +kernel
theorem f4 : mntP (imgD kD) := by decide +kernel
theorem f5 : nmsK (rdS kD) 0 24 = [[97]] := by decide +kernel
theorem f6 : takP (rdS kD) 2 := by decide +kernel
theorem f8 : (entAt (rdS kD) 0).n = [97] := by decide +kernel
end Go.Proofs.YtijdbjjkfkjihaaGreatDoor

/- The law, whole. Conditions: none. -/
namespace Go.Proofs.YtijdbjjkfkjihaaGreatDoor
open Go.Sy
set_option maxRecDepth 100000
set_option linter.all false
end Go.Proofs.YtijdbjjkfkjihaaGreatDoor

/- The tree of a disk, whole. Conditions: none. -/
namespace Go.Proofs.YtijdbjjkfkjihaaGreatDoor
open Go.Sy
set_option maxRecDepth 100000
set_option linter.all false
theorem Wk.nilD {N : Nat} {σ : S} (n a b : Nat) (hn : Go.Sy.look n σ.mem = some (.cells 1 [.d (.fs a [])])) : Wk N σ ⟨σ.sl, (n, .cells 1 [.d (.fs b [])]) :: σ.mem, σ.nx⟩ := by
  refine ⟨fun κ g w0 w hst => ⟨g, ?_⟩⟩
  have on : ∀ k, On g ((n, .cells 1 [.d (.fs b [])]) :: σ.mem) k → On g σ.mem k := fun k h => by
    unfold On at h ⊢
    rw [look_cons] at h
    by_cases hk : k = n
    · subst hk; rw [hn]; trivial
    · rw [if_neg hk] at h; exact h
  refine ⟨hst.size, hst.defers, hst.sl, ⟨hst.inv.frz, fun k ob hk => ?_, fun k m hkm h h' => hst.inv.inj k m hkm (on k h) (on m h'), hst.inv.size, hst.inv.pres, fun k h => hst.inv.own k (on k h), hst.inv.f0, hst.inv.fnew, hst.inv.os, hst.inv.tape, hst.inv.output, hst.inv.dfr⟩, ?_⟩
  · rw [look_cons] at hk
    by_cases hkn : k = n
    · subst hkn
      rw [if_pos rfl] at hk
      obtain rfl := Option.some.inj hk
      obtain ⟨arr, T, e1, e2, e3, e4, e5, e6⟩ := hst.inv.obs k _ hn
      refine ⟨arr, T, e1, e2, rfl, fun j hj => ?_, fun j hj => ?_, e6⟩
      · obtain rfl : j = 0 := by simp at hj; omega
        rfl
      · obtain rfl : j = 0 := by simp at hj; omega
        have h := e5 0 (by simp)
        simp only [List.getElem_cons_zero] at h ⊢
        generalize arr.getD 0 undef = q at h
        cases h with | d _ _ hd => ?_
        cases hd with
        | fs0 => exact .d _ _ (.fs0 _ _ _)
        | fs _ _ _ _ _ _ _ hl =>
          obtain rfl : 0 = _ := hl
          exact .d _ _ (.fs0 _ _ _)
    · rw [if_neg hkn] at hk; exact hst.inv.obs k ob hk
  · have := S.ok_iff.1 hst.ok
    refine S.ok_iff.2 ⟨this.1, fun p hp => ?_⟩
    rcases List.mem_cons.1 hp with rfl | hp
    · exact ⟨(S.ok_mem hst.ok hn).1, rfl⟩
    · exact this.2 p hp
theorem FnC.res {P : Program} {f : Nat} {args : List AV} {r r' : AV} (h : FnC P f args r) (hp : r'.isP = true) (hc : ∀ g v, AVR g r v → AVR g r' v) : FnC P f args r' := ⟨hp, fun g w vs a b c => by
  rcases h.run g w vs a b c with ⟨h1, h2⟩ | ⟨v, w', h1, v', g', h2, h3, h4⟩
  · exact .inl ⟨h1, h2.mono fun e w' ⟨v, g', q1, q2, q3⟩ => ⟨v, g', q1, hc _ _ q2, q3⟩⟩
  · exact .inr ⟨v, w', h1, v', g', h2, hc _ _ h3, h4⟩⟩
/-- An empty slice is one of any element's size. -/
theorem nil_sz {g : Gh} {a b : Nat} {x : D} {v : Value} (h : AVR g (.tup [.d (.fs a []), .d x]) v) : AVR g (.tup [.d (.fs b []), .d x]) v := by
  cases h with | tup _ vs h1 h2 => ?_
  refine .tup _ _ h1 fun j hj => ?_
  have := h2 j hj
  match j, hj with
  | 0, hj =>
    simp only [List.getElem_cons_zero] at this ⊢
    generalize vs.getD 0 undef = q at this
    cases this with | d _ _ hd => ?_
    cases hd with
    | fs0 => exact .d _ _ (.fs0 _ _ _)
    | fs _ _ _ _ _ _ _ hl =>
      obtain rfl : 0 = _ := hl
      exact .d _ _ (.fs0 _ _ _)
  | 1, hj => exact this
theorem topT {L : List Nod} (h : L.length ≤ 64) : AV.tup [.d (.fs 3 (L.map encN)), .d (.bl true)] = AV.tup [.d (.fs 3 ((L.take 64).map encN)), .d (.bl (decide (L.length ≤ 64)))] := by rw [List.take_of_length_le h, decide_eq_true h]
theorem topF {L : List Nod} (h : ¬ L.length ≤ 64) : AV.tup [.d (.fs 3 ((L.take 64).map encN)), .d (.bl false)] = AV.tup [.d (.fs 3 ((L.take 64).map encN)), .d (.bl (decide (L.length ≤ 64)))] := by rw [decide_eq_false h]
set_option maxHeartbeats 8000000 in
theorem tree_ok (d : Option Dk) (hd : DkOK d) : FnC Tryz.prog 8 [.d (encD d)] (tupN (treeV (rdS d))) := by
  have hi := inode_ok d hd 0
  unfold treeV
  by_cases hk : (inoAt (rdS d) 0).k = 2
  · rw [if_pos hk]
    unfold topV tupN
    refine FnC.intro ti_ok Tryz.func8 rfl Tryz.ntmps8 Tryz.call8 rfl (Nat.le_of_ble_eq_true rfl) rfl ?_
    (repeat' ((conv=>whnf);first|with_reducible refine gA ?_|((with_reducible refine callE_id ?_); first | refine CallE.con ⟨_, hi, ?_⟩ | refine CallE.inl ?_) | with_reducible refine CallI.inl ti_ok i28 rfl ?_|(with_reducible first|refine gB ?_|refine gZ (fun x hx hu=>?_)|refine gY (fun x hx=>?_)|refine gE ?_|refine Both.mk ?_ ?_|refine gS (fun h=>?_) (fun h=>?_)|refine Spl.nt ?_|refine Spl.mk (fun h=>?_) (fun h=>?_))))
    conv => whnf
    refine RangeS.wk (Wk.trans (Wk.trans (Wk.nlTs 2 0 1 3 35 (by with_unfolding_all exact rfl) (by with_unfolding_all exact rfl)) (Wk.nilD 6 0 1 (by with_unfolding_all exact rfl))) (Wk.enF (τ := ⟨[(2, .ptr 0 0), (3, .ptr 1 0), (4, .ptr 2 0), (11, clo 4 5 6)], c3 d 0 (.fs 1 (vS [])) 4 5 6 ++ tm0 [], 8⟩) (by (repeat (first | exact trivial | refine And.intro rfl ?_))) (by (repeat (first | exact trivial | refine And.intro (obw_eq rfl (by with_unfolding_all exact rfl)) ?_ | refine And.intro (obw_fr (by with_unfolding_all exact rfl) (by (repeat (first | exact trivial | refine And.intro (by with_unfolding_all exact rfl) ?_)))) ?_))) rfl)) ?_
    refine RangeS.introW ti_ok i60 rfl rfl (lvl0 d hd 0 [] rfl (fun s hs => by cases hs) [] (Nat.zero_le _) [] rfl _ ?_ ?_ ?_)
    · intro h2
      (repeat' ((conv=>whnf);first|with_reducible refine gA ?_|(with_reducible first|refine gB ?_|refine gZ (fun x hx hu=>?_)|refine gY (fun x hx=>?_)|refine gE ?_|refine Both.mk ?_ ?_|refine gS (fun h=>?_) (fun h=>?_)|refine Spl.nt ?_|refine Spl.mk (fun h=>?_) (fun h=>?_))))
      exact topT h2
    · intro h2
      (repeat' ((conv=>whnf);first|with_reducible refine gA ?_|(with_reducible first|refine gB ?_|refine gZ (fun x hx hu=>?_)|refine gY (fun x hx=>?_)|refine gE ?_|refine Both.mk ?_ ?_|refine gS (fun h=>?_) (fun h=>?_)|refine Spl.nt ?_|refine Spl.mk (fun h=>?_) (fun h=>?_))))
      exact topT h2
    · intro h2
      (repeat' ((conv=>whnf);first|with_reducible refine gA ?_|(with_reducible first|refine gB ?_|refine gZ (fun x hx hu=>?_)|refine gY (fun x hx=>?_)|refine gE ?_|refine Both.mk ?_ ?_|refine gS (fun h=>?_) (fun h=>?_)|refine Spl.nt ?_|refine Spl.mk (fun h=>?_) (fun h=>?_))))
      exact topF h2
  · rw [if_neg hk]
    refine FnC.res (r := .tup [.d (.fs 0 []), .d (.bl true)]) ?_ rfl fun g v => nil_sz
    refine FnC.intro ti_ok Tryz.func8 rfl Tryz.ntmps8 Tryz.call8 rfl (Nat.le_of_ble_eq_true rfl) rfl ?_
    (repeat' ((conv=>whnf);first|with_reducible refine gA ?_|((with_reducible refine callE_id ?_); refine CallE.con ⟨_, hi, ?_⟩)|(with_reducible first|refine gB ?_|refine gZ (fun x hx hu=>?_)|refine gY (fun x hx=>?_)|refine gE ?_|refine Both.mk ?_ ?_|refine gS (fun h=>?_) (fun h=>?_)|refine Spl.nt ?_|refine Spl.mk (fun h=>?_) (fun h=>?_))))
    exact rfl
end Go.Proofs.YtijdbjjkfkjihaaGreatDoor

/- Lists of nodes alike; what is known. Conditions: none. -/
namespace Go.Proofs.YtijdbjjkfkjihaaGreatDoor
open Go.Sy
set_option maxRecDepth 100000
set_option linter.all false
theorem eqNn (x y : Nod) : eqDs (encN x) (encN y) = decide (x = y) := by
  obtain ⟨p, d, t⟩ := x
  obtain ⟨p', d', t'⟩ := y
  rw [Bool.eq_iff_iff]
  simp [eqDs, eqD, encN]
theorem take_endN {α : Type} {a b : List α} {k : Nat} (h : a.take k = b.take k) (ha : a.length ≤ k) (hb : b.length ≤ k) : a = b := by
  rwa [List.take_of_length_le ha, List.take_of_length_le hb] at h
theorem sameN_ok (a b : List Nod) (ha : a.length ≤ 100000) : FnC Tryz.prog 12 [.d (.fs 3 (a.map encN)), .d (.fs 3 (b.map encN))] (.d (.bl (decide (a = b)))) := by
  refine FnC.intro ti_ok Tryz.func12 rfl Tryz.ntmps12 Tryz.call12 rfl (Nat.le_of_ble_eq_true rfl) rfl ?_
  have hla : (a.map encN).length = a.length := List.length_map ..
  have hlb : (b.map encN).length = b.length := List.length_map ..
  by_cases he : a.length = b.length
  · (repeat' ((conv=>whnf);first|with_reducible refine gA ?_|(with_reducible first|refine gB ?_|refine gZ (fun x hx hu=>?_)|refine gY (fun x hx=>?_)|refine gE ?_|refine Both.mk ?_ ?_|refine gS (fun h=>?_) (fun h=>?_)|refine Spl.nt ?_|refine Spl.mk (fun h=>?_) (fun h=>?_))))
    refine loop_rule ti_ok (fun k : Nat => k ≤ a.length ∧ a.take k = b.take k) (fun k => ⟨[(0, .d (.fs 3 (a.map encN))), (1, .d (.fs 3 (b.map encN))), (5, .d (.it .i64 k))], [], 0⟩) (fun k => a.length - k) 0 ⟨Nat.zero_le _, rfl⟩ ⟨⟨rfl, rfl, rfl, trivial⟩, trivial, rfl⟩ ?_
    intro k ⟨k1, k2⟩
    rcases Nat.lt_or_ge k a.length with hkl | hkl
    · obtain ⟨x, hx⟩ := lt_get hkl
      obtain ⟨y, hy⟩ := lt_get (l := b) (k := k) (by omega)
      (repeat' ((conv=>whnf);first|with_reducible refine gA ?_|(with_reducible first|refine gB ?_|refine gZ (fun x hx hu=>?_)|refine gY (fun x hx=>?_)|refine gE ?_|refine Both.mk ?_ ?_|refine gS (fun h=>?_) (fun h=>?_)|refine Spl.nt ?_|refine Spl.mk (fun h=>?_) (fun h=>?_))))
      · have h' : eqDs (encN x) (encN y) = true := h
        rw [eqNn, decide_eq_true_eq] at h'
        refine again (k + 1) ⟨by omega, ?_⟩ (by dsimp only; omega) (And.intro rfl (And.intro rfl (And.intro rfl trivial))) trivial rfl
        rw [take_snoc hx, take_snoc hy, k2, h']
      · have h' : eqDs (encN x) (encN y) = false := h
        rw [eqNn, decide_eq_false_iff_not] at h'
        refine bl_eq (decide_eq_false fun hab => h' ?_).symm
        rw [hab, hy] at hx
        exact (Option.some.inj hx).symm
    · (repeat' ((conv=>whnf);first|with_reducible refine gA ?_|(with_reducible first|refine gB ?_|refine gZ (fun x hx hu=>?_)|refine gY (fun x hx=>?_)|refine gE ?_|refine Both.mk ?_ ?_|refine gS (fun h=>?_) (fun h=>?_)|refine Spl.nt ?_|refine Spl.mk (fun h=>?_) (fun h=>?_))))
      exact bl_eq (decide_eq_true (take_endN k2 hkl (by omega))).symm
  · (repeat' ((conv=>whnf);first|with_reducible refine gA ?_|(with_reducible first|refine gB ?_|refine gZ (fun x hx hu=>?_)|refine gY (fun x hx=>?_)|refine gE ?_|refine Both.mk ?_ ?_|refine gS (fun h=>?_) (fun h=>?_)|refine Spl.nt ?_|refine Spl.mk (fun h=>?_) (fun h=>?_))))
    exact bl_eq (decide_eq_false fun hab => he (by rw [hab])).symm
def k3S : List UInt8 := [2, 0, 0, 0, 0, 0, 0, 0, 0, 0, 0, 0, 0, 0, 0, 0, 0, 0, 0, 0, 0, 0, 0, 0, 0, 0, 0, 0, 0, 0, 0, 0]
def kV : List Wr := [⟨17, k1S, 0, 0, 0⟩, ⟨3, k3S, 0, 0, 0⟩]
theorem kv_ok : WsOK kV := by
  intro w hw
  simp only [kV, List.mem_cons, List.not_mem_nil, or_false] at hw
  rcases hw with rfl | rfl <;> rfl
def kDV : Option Dk := dskOf emptyM kV
theorem kdv_OK : DkOK kDV := dsk_OK em_ok kv_ok (by decide)
theorem v1 : nmsK (rdS kDV) 0 24 = [[97]] := by decide +kernel
theorem v2 : nmsK (rdS kDV) 2 24 = [] := by decide +kernel
theorem v3 : mOf (rdS kDV) 0 [97] = 2 := by decide +kernel
theorem v4 : (inoAt (rdS kDV) 2).k = 2 := by decide +kernel
theorem v5 : dataV (rdS kDV) (inoAt (rdS kDV) 2) = [] := by decide +kernel
theorem v6 : (inoAt (rdS kDV) 0).k = 2 := by decide +kernel
theorem v7 : nms (rdS kDV) 0 = [[97]] := by
  unfold nms sortS
  rw [v1, List.mergeSort_singleton]; rfl
theorem v8 : nms (rdS kDV) 2 = [] := by
  unfold nms sortS
  rw [v2, List.mergeSort_nil]; rfl
theorem v9 : treeV (rdS kDV) = ([⟨[47, 97], true, []⟩], true) := by
  have e : subV (rdS kDV) 4 0 [] = [⟨[47, 97], true, []⟩] := by
    rw [subV, v7]
    show nodV (rdS kDV) [] 0 [97] :: ((if (inoAt (rdS kDV) (mOf (rdS kDV) 0 [97])).k = 2 then subV (rdS kDV) 3 (mOf (rdS kDV) 0 [97]) ([] ++ [[97]]) else []) ++ []) = _
    rw [v3, if_pos v4, subV, v8]
    show [nodV (rdS kDV) [] 0 [97]] = _
    unfold nodV
    rw [v3, v4, v5]; rfl
  unfold treeV topV
  rw [if_pos v6, e]; rfl
theorem knows14_ok : FnC Tryz.prog 7 [] (.d (.bl true)) := by
  have h1 : FnC Tryz.prog 9 [.d (encM emptyM), .d (.fs 36 (kV.map encW))] (.d (encD kDV)) := disk_ok emptyM em_ok kV kv_ok (by decide) (by decide)
  have h2 := tree_ok kDV kdv_OK
  rw [v9] at h2
  have h3 : FnC Tryz.prog 15 [.d (.fs 3 [[.st [47, 98], .bl false, .st [120, 7]]])] (.tup [.d (.st [47, 98, 32, 34, 120, 92, 48, 55, 34, 10]), .d (.bl true)]) := by
    have := vshow_ok [⟨[47, 98], false, [120, 7]⟩] (fun x hx => by rw [List.mem_singleton.1 hx]; decide) (by decide)
    rw [showV, show List.all [(⟨[47, 98], false, [120, 7]⟩ : Nod)] mayB = true by decide +kernel, if_pos rfl, show showN [⟨[47, 98], false, [120, 7]⟩] = [47, 98, 32, 34, 120, 92, 48, 55, 34, 10] by decide +kernel] at this
    exact this
  generalize kDV = dk at *
  refine FnC.intro ti_ok Tryz.func7 rfl Tryz.ntmps7 Tryz.call7 rfl (Nat.le_of_ble_eq_true rfl) rfl ?_
  (repeat' ((conv=>whnf);first|with_reducible refine gA ?_|((with_reducible refine callE_id ?_); first | refine CallE.con ⟨_, empty_ok, ?_⟩ | refine CallE.con ⟨_, h1, ?_⟩ | refine CallE.con ⟨_, h2, ?_⟩ | refine CallE.con ⟨_, h3, ?_⟩)|(with_reducible first|refine gB ?_|refine gZ (fun x hx hu=>?_)|refine gY (fun x hx=>?_)|refine gE ?_|refine Both.mk ?_ ?_|refine gS (fun h=>?_) (fun h=>?_)|refine Spl.nt ?_|refine Spl.mk (fun h=>?_) (fun h=>?_))))
  exact rfl
end Go.Proofs.YtijdbjjkfkjihaaGreatDoor

/- The document's names of a folder. Conditions: none. -/
namespace Go.Proofs.YtijdbjjkfkjihaaGreatDoor
open Go.Sy
set_option maxRecDepth 100000
set_option linter.all false
theorem stands_ok (m : List (List UInt8)) (hm : ImOK m) (k : Int) : FnC Tryz.prog 104 [.d (encM m), .d (.it .i64 k)] (.d (.bl (decide ((entAt (imS m) k).u = true ∧ (inoAt (imS m) (entAt (imS m) k).t).k ≠ 0)))) := by
  have he := refEntry_ok m hm k
  have hi := refInode_ok m hm (entAt (imS m) k).t
  refine FnC.intro ti_ok Tryz.func104 rfl Tryz.ntmps104 Tryz.call104 rfl (Nat.le_of_ble_eq_true rfl) rfl ?_
  by_cases hu : (entAt (imS m) k).u = false
  · have he' : encE (entAt (imS m) k) = [.bl false, .it .i64 (entAt (imS m) k).p, .st (entAt (imS m) k).n, .it .i64 (entAt (imS m) k).t] := by rw [encE, hu]
    rw [he'] at he
    (repeat' ((conv=>whnf);first|with_reducible refine gA ?_|((with_reducible refine callE_id ?_); (refine CallE.con ⟨_, he, ?_⟩))|(with_reducible first|refine gB ?_|refine gZ (fun x hx hu=>?_)|refine gY (fun x hx=>?_)|refine gE ?_|refine Both.mk ?_ ?_|refine gS (fun h=>?_) (fun h=>?_)|refine Spl.nt ?_|refine Spl.mk (fun h=>?_) (fun h=>?_))))
    refine bl_eq (decide_eq_false fun q => ?_).symm
    rw [hu] at q; cases q.1
  · have hu' : (entAt (imS m) k).u = true := by simpa using hu
    have he' : encE (entAt (imS m) k) = [.bl true, .it .i64 (entAt (imS m) k).p, .st (entAt (imS m) k).n, .it .i64 (entAt (imS m) k).t] := by rw [encE, hu']
    rw [he'] at he
    (repeat' ((conv=>whnf);first|with_reducible refine gA ?_|((with_reducible refine callE_id ?_); first | (refine CallE.con ⟨_, he, ?_⟩) | (refine CallE.con ⟨_, hi, ?_⟩))|(with_reducible first|refine gB ?_|refine gZ (fun x hx hu=>?_)|refine gY (fun x hx=>?_)|refine gE ?_|refine Both.mk ?_ ?_|refine gS (fun h=>?_) (fun h=>?_)|refine Spl.nt ?_|refine Spl.mk (fun h=>?_) (fun h=>?_))))
    refine bl_eq ?_
    show (!((inoAt (imS m) (entAt (imS m) k).t).k == 0)) = _
    by_cases h0 : (inoAt (imS m) (entAt (imS m) k).t).k = 0
    · rw [h0, decide_eq_false fun q => q.2 rfl]; rfl
    · rw [decide_eq_true ⟨hu', h0⟩, beq_eq_false_iff_ne.2 h0]; rfl
set_option maxHeartbeats 4000000 in
theorem refFind_ok (m : List (List UInt8)) (hm : ImOK m) (p : Int) (s : List UInt8) : FnC Tryz.prog 75 [.d (encM m), .d (.it .i64 p), .d (.st s)] (fndV (fndK (imS m) p s)) := by
  have he := fun k => refEntry_ok m hm k
  have hs := fun k => stands_ok m hm k
  generalize hR : fndV (fndK (imS m) p s) = R
  have hRP : R.isP = true := by rw [← hR]; unfold fndV; split <;> rfl
  refine FnC.intro ti_ok Tryz.func75 rfl Tryz.ntmps75 Tryz.call75 rfl (Nat.le_of_ble_eq_true rfl) hRP ?_
  (repeat' ((conv=>whnf);first|with_reducible refine gA ?_|(with_reducible first|refine gB ?_|refine gZ (fun x hx hu=>?_)|refine gY (fun x hx=>?_)|refine gE ?_|refine Both.mk ?_ ?_|refine gS (fun h=>?_) (fun h=>?_)|refine Spl.nt ?_|refine Spl.mk (fun h=>?_) (fun h=>?_))))
  refine loop_rule ti_ok (fun k : Nat => k ≤ 24 ∧ ∀ j : Nat, j < k → ¬ fndP (imS m) p s j) (fun k : Nat => ⟨[(0, .d (encM m)), (1, .d (.it .i64 p)), (2, .d (.st s)), (8, .d (.it .i64 (k : Nat)))], [], 0⟩) (fun k => 24 - k) 0 ⟨Nat.zero_le _, fun j hj => by omega⟩ ⟨And.intro rfl (And.intro rfl (And.intro rfl (And.intro rfl trivial))), trivial, rfl⟩ ?_
  intro k hk0
  have k1 := hk0.1
  have k2 := hk0.2
  by_cases hk : k < 24
  · have hek := he (k : Nat)
    have hsk := hs (k : Nat)
    have next : ¬ fndP (imS m) p s k → ∀ j : Nat, j < k + 1 → ¬ fndP (imS m) p s j := fun hn j hj => by
      rcases Nat.lt_or_ge j k with hjk | hjk
      · exact k2 j hjk
      · obtain rfl : j = k := by omega
        exact hn
    by_cases hst : (entAt (imS m) k).u = true ∧ (inoAt (imS m) (entAt (imS m) k).t).k ≠ 0
    · rw [decide_eq_true hst] at hsk
      (repeat' ((conv=>whnf);first|with_reducible refine gA ?_|((with_reducible refine callE_id ?_); first | (refine CallE.con ⟨_, hek, ?_⟩) | (refine CallE.con ⟨_, hsk, ?_⟩))|(with_reducible first|refine gB ?_|refine gZ (fun x hx hu=>?_)|refine gY (fun x hx=>?_)|refine gE ?_|refine Both.mk ?_ ?_|refine gS (fun h=>?_) (fun h=>?_)|refine Spl.nt ?_|refine Spl.mk (fun h=>?_) (fun h=>?_))))
      · rw [← hR, fndK_some hk ⟨⟨hst.1, by assumption, hst.2⟩, by assumption⟩ k2]; rfl
      · refine again (k + 1) ⟨by omega, next fun q => (by assumption : ¬ _) q.2⟩ (by dsimp only; omega) (And.intro rfl (And.intro rfl (And.intro rfl (And.intro (it_eq (by omega)) trivial)))) trivial rfl
      · refine again (k + 1) ⟨by omega, next fun q => (by assumption : ¬ _) q.1.2.1⟩ (by dsimp only; omega) (And.intro rfl (And.intro rfl (And.intro rfl (And.intro (it_eq (by omega)) trivial)))) trivial rfl
    · rw [decide_eq_false hst] at hsk
      (repeat' ((conv=>whnf);first|with_reducible refine gA ?_|((with_reducible refine callE_id ?_); first | (refine CallE.con ⟨_, hek, ?_⟩) | (refine CallE.con ⟨_, hsk, ?_⟩))|(with_reducible first|refine gB ?_|refine gZ (fun x hx hu=>?_)|refine gY (fun x hx=>?_)|refine gE ?_|refine Both.mk ?_ ?_|refine gS (fun h=>?_) (fun h=>?_)|refine Spl.nt ?_|refine Spl.mk (fun h=>?_) (fun h=>?_))))
      refine again (k + 1) ⟨by omega, next fun q => hst ⟨q.1.1, q.1.2.2⟩⟩ (by dsimp only; omega) (And.intro rfl (And.intro rfl (And.intro rfl (And.intro (it_eq (by omega)) trivial)))) trivial rfl
  · have : k = 24 := by omega
    subst this
    (repeat' ((conv=>whnf);first|with_reducible refine gA ?_|(with_reducible first|refine gB ?_|refine gZ (fun x hx hu=>?_)|refine gY (fun x hx=>?_)|refine gE ?_|refine Both.mk ?_ ?_|refine gS (fun h=>?_) (fun h=>?_)|refine Spl.nt ?_|refine Spl.mk (fun h=>?_) (fun h=>?_))))
    rw [← hR, fndK_none k2]; rfl
/-- The names, one behind the other. -/
def pickK (f : Int → List UInt8) (p : Int) (last : List UInt8) (k : Nat) : Option (List UInt8) := pickL last (nmsK f p k)
theorem pickK_no {f : Int → List UInt8} {p : Int} {last : List UInt8} {k : Nat} (h : ¬ stdP f p k) : pickK f p last (k + 1) = pickK f p last k := by
  unfold pickK; rw [nmsK_no h]
theorem pickK_yes {f : Int → List UInt8} {p : Int} {last : List UInt8} {k : Nat} (h : stdP f p k) : pickK f p last (k + 1) = pickS last (pickK f p last k) (entAt f (k : Nat)).n := by
  unfold pickK pickL; rw [nmsK_yes h, List.foldl_append]; rfl
theorem pick_nms (f : Int → List UInt8) (p : Int) (i : Nat) (hi : i ≤ (nms f p).length) : pickK f p (lastS (nms f p) i) 24 = (nms f p)[i]? := by
  refine pick_at (compact_sorted (sortS_sorted _)) (fun x => (compact_mem x).trans List.mem_mergeSort) (fun x hx h => ?_) i hi
  have : x ∈ nms f p := (compact_mem x).2 (List.mem_mergeSort.2 hx)
  have := nms_name f p x this
  rw [h] at this; revert this; decide
/-- A text that is there or not: what stands for it. -/
def optS (o : Option (List UInt8)) : List UInt8 := o.getD []
end Go.Proofs.YtijdbjjkfkjihaaGreatDoor

/- The document's list of names. Conditions: none. -/
namespace Go.Proofs.YtijdbjjkfkjihaaGreatDoor
open Go.Sy
set_option maxRecDepth 100000
set_option linter.all false
theorem gt_lt (last x : List UInt8) : (!(Op.bytesLess x last || x == last)) = decide (last < x) := by
  by_cases h : last < x
  · rw [decide_eq_true h]
    have h1 := (less_lt last x).2 h
    have h2 := less_asy _ _ h1
    have h3 : (x == last) = false := by
      refine seq_ff fun e => ?_
      rw [e] at h; exact not_lt_self _ h
    rw [h2, h3]; rfl
  · rw [decide_eq_false h]
    have h1 : Op.bytesLess last x = false := by
      cases hb : Op.bytesLess last x with
      | false => rfl
      | true => exact absurd ((less_lt _ _).1 hb) h
    cases h2 : Op.bytesLess x last with
    | true => rfl
    | false =>
      have := less_tri _ _ h2 h1
      rw [this]; simp
theorem lss_lt (x y : List UInt8) : Op.bytesLess x y = decide (x < y) := by
  cases h : Op.bytesLess x y with
  | true => exact (decide_eq_true ((less_lt _ _).1 h)).symm
  | false => exact (decide_eq_false fun q => by rw [(less_lt _ _).2 q] at h; cases h).symm
theorem pickS_eq (last : List UInt8) (o : Option (List UInt8)) (x : List UInt8) : pickS last o x = bif !(Op.bytesLess x last || x == last) then (bif o.isSome then (bif Op.bytesLess x (optS o) then some x else o) else some x) else o := by
  rw [gt_lt]
  cases o with
  | none =>
    show (if last < x then some x else none) = bif decide (last < x) then some x else none
    by_cases h : last < x
    · rw [if_pos h, decide_eq_true h]; rfl
    · rw [if_neg h, decide_eq_false h]; rfl
  | some y =>
    show (if last < x ∧ x < y then some x else some y) = bif decide (last < x) then (bif Op.bytesLess x y then some x else some y) else some y
    rw [lss_lt]
    by_cases h : last < x
    · rw [decide_eq_true h]
      by_cases h2 : x < y
      · rw [if_pos ⟨h, h2⟩, decide_eq_true h2]; rfl
      · rw [if_neg fun q => h2 q.2, decide_eq_false h2]; rfl
    · rw [if_neg fun q => h q.1, decide_eq_false h]; rfl
def rlA (m : List (List UInt8)) (p : Int) (S0 : List (List UInt8)) (i : Nat) : S := ⟨[(0, .d (encM m)), (1, .d (.it .i64 p)), (5, .ts 1 (vS (S0.take i)) 1), (6, .d (.st (lastS S0 i)))], [(1, .tail 9 true)], 2⟩
def rlB (m : List (List UInt8)) (p : Int) (S0 : List (List UInt8)) (i : Nat) (o : Option (List UInt8)) (k : Nat) : S := ⟨[(0, .d (encM m)), (1, .d (.it .i64 p)), (5, .ts 1 (vS (S0.take i)) 1), (6, .d (.st (lastS S0 i))), (7, .d (.st (optS o))), (8, .d (.bl o.isSome)), (9, .d (.it .i64 (k : Nat)))], [(1, .tail 9 true)], 2⟩
theorem tsV {a b : List (List D)} {n : Nat} (h : a = b) : AV.ts 1 a n = AV.ts 1 b n := by rw [h]
theorem stE {a b : List UInt8} (h : a = b) : AV.d (.st a) = .d (.st b) := by rw [h]
theorem blE {a b : Bool} (h : a = b) : AV.d (.bl a) = .d (.bl b) := by rw [h]
set_option maxHeartbeats 8000000 in
theorem refList_ok (m : List (List UInt8)) (hm : ImOK m) (p : Int) : FnC Tryz.prog 74 [.d (encM m), .d (.it .i64 p)] (.d (.fs 1 (vS (nms (imS m) p)))) := by
  have he := fun k => refEntry_ok m hm k
  have hs := fun k => stands_ok m hm k
  have hpk := pick_nms (imS m) p
  have hS24 := nms_len (imS m) p
  generalize hS : nms (imS m) p = S0 at hpk hS24 ⊢
  refine FnC.intro ti_ok Tryz.func74 rfl Tryz.ntmps74 Tryz.call74 rfl (Nat.le_of_ble_eq_true rfl) rfl ?_
  (repeat' ((conv=>whnf);first|with_reducible refine gA ?_|(with_reducible first|refine gB ?_|refine gZ (fun x hx hu=>?_)|refine gY (fun x hx=>?_)|refine gE ?_|refine Both.mk ?_ ?_|refine gS (fun h=>?_) (fun h=>?_)|refine Spl.nt ?_|refine Spl.mk (fun h=>?_) (fun h=>?_))))
  refine loop_rule ti_ok (fun i : Nat => i ≤ S0.length) (rlA m p S0) (fun i => S0.length - i) 0 (Nat.zero_le _) ⟨And.intro rfl (And.intro rfl (And.intro rfl (And.intro rfl trivial))), And.intro rfl trivial, rfl⟩ ?_
  intro i hi
  have hpk := hpk i hi
  have hvl : (vS (S0.take i)).length ≤ i := by unfold vS; rw [List.length_map]; exact List.length_take_le ..
  (repeat' ((conv=>whnf);first|with_reducible refine gA ?_|(with_reducible first|refine gB ?_|refine gZ (fun x hx hu=>?_)|refine gY (fun x hx=>?_)|refine gE ?_|refine Both.mk ?_ ?_|refine gS (fun h=>?_) (fun h=>?_)|refine Spl.nt ?_|refine Spl.mk (fun h=>?_) (fun h=>?_))))
  conv => whnf
  refine loop_rule ti_ok (fun k : Nat => k ≤ 24) (fun k => rlB m p S0 i (pickK (imS m) p (lastS S0 i) k) k) (fun k => 24 - k) 0 (Nat.zero_le _) ⟨And.intro rfl (And.intro rfl (And.intro rfl (And.intro rfl (And.intro rfl (And.intro rfl (And.intro rfl trivial)))))), And.intro rfl trivial, rfl⟩ ?_
  intro k hk
  by_cases hk24 : k < 24
  · have hek := he (k : Nat)
    have hsk := hs (k : Nat)
    have hyes := pickK_yes (f := imS m) (p := p) (last := lastS S0 i) (k := k)
    have hno := pickK_no (f := imS m) (p := p) (last := lastS S0 i) (k := k)
    by_cases hst : (entAt (imS m) k).u = true ∧ (inoAt (imS m) (entAt (imS m) k).t).k ≠ 0
    · rw [decide_eq_true hst] at hsk
      by_cases hpp : (entAt (imS m) k).p = p
      · have hyes := hyes ⟨hst.1, hpp, hst.2⟩
        rw [pickS_eq] at hyes
        by_cases hg : (!(Op.bytesLess (entAt (imS m) (k : Nat)).n (lastS S0 i) || (entAt (imS m) (k : Nat)).n == lastS S0 i)) = false
        · rw [hg] at hyes
          have hno : pickK (imS m) p (lastS S0 i) (k + 1) = pickK (imS m) p (lastS S0 i) k := hyes
          (repeat' ((conv=>whnf);first|with_reducible refine gA ?_|((with_reducible refine callE_id ?_); first | (refine CallE.con ⟨_, hek, ?_⟩) | (refine CallE.con ⟨_, hsk, ?_⟩))|(with_reducible first|refine gB ?_|refine gZ (fun x hx hu=>?_)|refine gY (fun x hx=>?_)|refine gE ?_|refine Both.mk ?_ ?_|refine gS (fun h=>?_) (fun h=>?_)|refine Spl.nt ?_|refine Spl.mk (fun h=>?_) (fun h=>?_))))
          refine again (k + 1) hk24 (by dsimp only; omega) (And.intro rfl (And.intro rfl (And.intro rfl (And.intro rfl (And.intro (stE (congrArg optS hno.symm)) (And.intro (blE (congrArg Option.isSome hno.symm)) (And.intro (it_eq (by omega)) trivial))))))) (And.intro rfl trivial) rfl
        · have hg := (Bool.not_eq_false _).mp hg
          by_cases hio : (pickK (imS m) p (lastS S0 i) k).isSome = true
          · rw [hg, hio] at hyes
            by_cases hb : Op.bytesLess (entAt (imS m) (k : Nat)).n (optS (pickK (imS m) p (lastS S0 i) k)) = true
            · rw [hb] at hyes
              have hye : pickK (imS m) p (lastS S0 i) (k + 1) = some (entAt (imS m) (k : Nat)).n := hyes
              (repeat' ((conv=>whnf);first|with_reducible refine gA ?_|((with_reducible refine callE_id ?_); first | (refine CallE.con ⟨_, hek, ?_⟩) | (refine CallE.con ⟨_, hsk, ?_⟩))|(with_reducible first|refine gB ?_|refine gZ (fun x hx hu=>?_)|refine gY (fun x hx=>?_)|refine gE ?_|refine Both.mk ?_ ?_|refine gS (fun h=>?_) (fun h=>?_)|refine Spl.nt ?_|refine Spl.mk (fun h=>?_) (fun h=>?_))))
              refine again (k + 1) hk24 (by dsimp only; omega) (And.intro rfl (And.intro rfl (And.intro rfl (And.intro rfl (And.intro (stE (congrArg optS hye.symm)) (And.intro (blE (congrArg Option.isSome hye.symm)) (And.intro (it_eq (by omega)) trivial))))))) (And.intro rfl trivial) rfl
            · have hb := Bool.eq_false_iff.2 hb
              rw [hb] at hyes
              have hno : pickK (imS m) p (lastS S0 i) (k + 1) = pickK (imS m) p (lastS S0 i) k := hyes
              (repeat' ((conv=>whnf);first|with_reducible refine gA ?_|((with_reducible refine callE_id ?_); first | (refine CallE.con ⟨_, hek, ?_⟩) | (refine CallE.con ⟨_, hsk, ?_⟩))|(with_reducible first|refine gB ?_|refine gZ (fun x hx hu=>?_)|refine gY (fun x hx=>?_)|refine gE ?_|refine Both.mk ?_ ?_|refine gS (fun h=>?_) (fun h=>?_)|refine Spl.nt ?_|refine Spl.mk (fun h=>?_) (fun h=>?_))))
              refine again (k + 1) hk24 (by dsimp only; omega) (And.intro rfl (And.intro rfl (And.intro rfl (And.intro rfl (And.intro (stE (congrArg optS hno.symm)) (And.intro (blE (congrArg Option.isSome hno.symm)) (And.intro (it_eq (by omega)) trivial))))))) (And.intro rfl trivial) rfl
          · have hio := Bool.eq_false_iff.2 hio
            rw [hg, hio] at hyes
            have hye : pickK (imS m) p (lastS S0 i) (k + 1) = some (entAt (imS m) (k : Nat)).n := hyes
            (repeat' ((conv=>whnf);first|with_reducible refine gA ?_|((with_reducible refine callE_id ?_); first | (refine CallE.con ⟨_, hek, ?_⟩) | (refine CallE.con ⟨_, hsk, ?_⟩))|(with_reducible first|refine gB ?_|refine gZ (fun x hx hu=>?_)|refine gY (fun x hx=>?_)|refine gE ?_|refine Both.mk ?_ ?_|refine gS (fun h=>?_) (fun h=>?_)|refine Spl.nt ?_|refine Spl.mk (fun h=>?_) (fun h=>?_))))
            refine again (k + 1) hk24 (by dsimp only; omega) (And.intro rfl (And.intro rfl (And.intro rfl (And.intro rfl (And.intro (stE (congrArg optS hye.symm)) (And.intro (blE (congrArg Option.isSome hye.symm)) (And.intro (it_eq (by omega)) trivial))))))) (And.intro rfl trivial) rfl
      · have hno := hno fun q => hpp q.2.1
        (repeat' ((conv=>whnf);first|with_reducible refine gA ?_|((with_reducible refine callE_id ?_); first | (refine CallE.con ⟨_, hek, ?_⟩) | (refine CallE.con ⟨_, hsk, ?_⟩))|(with_reducible first|refine gB ?_|refine gZ (fun x hx hu=>?_)|refine gY (fun x hx=>?_)|refine gE ?_|refine Both.mk ?_ ?_|refine gS (fun h=>?_) (fun h=>?_)|refine Spl.nt ?_|refine Spl.mk (fun h=>?_) (fun h=>?_))))
        refine again (k + 1) hk24 (by dsimp only; omega) (And.intro rfl (And.intro rfl (And.intro rfl (And.intro rfl (And.intro (stE (congrArg optS hno.symm)) (And.intro (blE (congrArg Option.isSome hno.symm)) (And.intro (it_eq (by omega)) trivial))))))) (And.intro rfl trivial) rfl
    · rw [decide_eq_false hst] at hsk
      have hno := hno fun q => hst ⟨q.1, q.2.2⟩
      (repeat' ((conv=>whnf);first|with_reducible refine gA ?_|((with_reducible refine callE_id ?_); first | (refine CallE.con ⟨_, hek, ?_⟩) | (refine CallE.con ⟨_, hsk, ?_⟩))|(with_reducible first|refine gB ?_|refine gZ (fun x hx hu=>?_)|refine gY (fun x hx=>?_)|refine gE ?_|refine Both.mk ?_ ?_|refine gS (fun h=>?_) (fun h=>?_)|refine Spl.nt ?_|refine Spl.mk (fun h=>?_) (fun h=>?_))))
      refine again (k + 1) hk24 (by dsimp only; omega) (And.intro rfl (And.intro rfl (And.intro rfl (And.intro rfl (And.intro (stE (congrArg optS hno.symm)) (And.intro (blE (congrArg Option.isSome hno.symm)) (And.intro (it_eq (by omega)) trivial))))))) (And.intro rfl trivial) rfl
  · have hke : k = 24 := by omega
    subst hke
    rcases Nat.lt_or_ge i S0.length with hil | hil
    · obtain ⟨y, hy⟩ := lt_get hil
      rw [hy] at hpk
      have hios : (pickK (imS m) p (lastS S0 i) 24).isSome = true := by rw [hpk]; rfl
      have hop : optS (pickK (imS m) p (lastS S0 i) 24) = y := by rw [hpk]; rfl
      have hl1 : lastS S0 (i + 1) = y := by show S0.getD i [] = y; rw [List.getD_eq_getElem?_getD, hy]; rfl
      have hv1 : vS (S0.take i) ++ [[.st y]] = vS (S0.take (i + 1)) := by rw [take_snoc hy]; unfold vS; rw [List.map_append]; rfl
      (repeat' ((conv=>whnf);first|with_reducible refine gA ?_|(with_reducible first|refine gB ?_|refine gZ (fun x hx hu=>?_)|refine gY (fun x hx=>?_)|refine gE ?_|refine Both.mk ?_ ?_|refine gS (fun h=>?_) (fun h=>?_)|refine Spl.nt ?_|refine Spl.mk (fun h=>?_) (fun h=>?_))))
      refine again (i + 1) hil (by dsimp only; omega) (And.intro rfl (And.intro rfl (And.intro (tsV ?_) (And.intro (stE (hop.trans hl1.symm)) trivial)))) (And.intro rfl trivial) rfl
      show vS (S0.take i) ++ [[.st (optS (pickK (imS m) p (lastS S0 i) 24))]] = _
      rw [hop]; exact hv1
    · rw [List.getElem?_eq_none hil] at hpk
      have hios : (pickK (imS m) p (lastS S0 i) 24).isSome = false := by rw [hpk]; rfl
      (repeat' ((conv=>whnf);first|with_reducible refine gA ?_|(with_reducible first|refine gB ?_|refine gZ (fun x hx hu=>?_)|refine gY (fun x hx=>?_)|refine gE ?_|refine Both.mk ?_ ?_|refine gS (fun h=>?_) (fun h=>?_)|refine Spl.nt ?_|refine Spl.mk (fun h=>?_) (fun h=>?_))))
      show AV.d (.fs 1 (vS (S0.take i))) = _
      rw [List.take_of_length_le hil]
end Go.Proofs.YtijdbjjkfkjihaaGreatDoor

/- The bytes of a file, by the document's answer. Conditions: none. -/
namespace Go.Proofs.YtijdbjjkfkjihaaGreatDoor
open Go.Sy
set_option maxRecDepth 100000
set_option linter.all false
theorem drop_at26 {α : Type} {l : List α} {j : Nat} {c : α} (h : l[j]? = some c) : l.drop j = c :: l.drop (j + 1) := by
  obtain ⟨hj, rfl⟩ := List.getElem?_eq_some_iff.1 h
  exact List.drop_eq_getElem_cons hj
theorem quo_at {i q : Nat} (hi : i ≤ 1000) (h : i / 32 = q) : IntKind.i64.wrap (Int.tdiv (i : Int) 32) = (q : Int) := by
  subst h
  have h1 : Int.tdiv (i : Int) 32 = ((i / 32 : Nat) : Int) := rfl
  rw [h1, IntWalk.i64_in _ (by omega)]
theorem rem_at (i : Nat) : Int.tmod (i : Int) 32 = ((i % 32 : Nat) : Int) := rfl
def rdtA (m : List (List UInt8)) (x : Ino) (i : Nat) : S := ⟨[(0, .d (encM m)), (3, .ptr 0 0), (5, .ts 1 (bytesD ((dataV (imS m) x).take i)) 1), (6, .d (.it .i64 (i : Nat)))], [(0, .cells 6 ((encI x).map .d)), (1, .tail 5 true)], 2⟩
theorem at_isM {α β : Type} {e : α → β} {l : List α} {n : Int} {x : α} {K : β → Prop} (hx : l[n.toNat]? = some x) (h : K (e x)) (h0 : 0 ≤ n ∧ n < l.length := by omega) : (0 ≤ n ∧ n < (l.map e).length) ∧ ∀ c, (l.map e)[n.toNat]? = some c → K c := ⟨by rw [List.length_map]; exact h0, fun c hc => by
  rw [List.getElem?_map, hx] at hc
  obtain rfl := Option.some.inj hc
  exact h⟩
theorem byte_at26 {s : List UInt8} {k : Nat} {b : UInt8} (h : s[k]? = some b) : List.take 1 (List.drop (((k : Nat) : Int).toNat * 1) (encS s)) = [.it .u8 b.toNat] := by
  rw [Int.toNat_natCast, Nat.mul_one, drop_at26 (l := encS s) (c := .it .u8 b.toNat) (by unfold encS; rw [List.getElem?_map, h]; rfl)]; rfl
theorem cat_at {f : Int → List UInt8} (hf : ∀ n, (f n).length = 32) (x : Ino) {i q : Nat} (hq : i / 32 = q) (hq4 : q < 4) (hz : (i : Int) < x.z) : (dataV f x)[i]? = (f (40 + blkI x q))[i % 32]? := by
  have h0 := hf (40 + x.b0)
  have h1 := hf (40 + x.b1)
  have h2 := hf (40 + x.b2)
  have h3 := hf (40 + x.b3)
  unfold dataV
  rw [List.getElem?_take_of_lt (by omega)]
  have hk' : q = 0 ∨ q = 1 ∨ q = 2 ∨ q = 3 := by omega
  rcases hk' with rfl | rfl | rfl | rfl
  · rw [List.append_assoc, List.append_assoc, List.getElem?_append_left (by omega), show i % 32 = i by omega]; rfl
  · rw [List.append_assoc, List.append_assoc, List.getElem?_append_right (by omega), List.getElem?_append_left (by omega), h0, show i % 32 = i - 32 by omega]; rfl
  · rw [List.append_assoc (f (40 + x.b0) ++ f (40 + x.b1)), List.getElem?_append_right (by rw [List.length_append]; omega), List.getElem?_append_left (by rw [List.length_append]; omega), List.length_append, h0, h1, show i % 32 = i - (32 + 32) by omega]; rfl
  · rw [List.getElem?_append_right (by rw [List.length_append, List.length_append]; omega), List.length_append, List.length_append, h0, h1, h2, show i % 32 = i - (32 + 32 + 32) by omega]; rfl
theorem zero_at {k : Nat} {b : UInt8} (h : zeroS[k]? = some b) : b = 0 := by
  have h1 : ∀ c ∈ zeroS, c = 0 := by decide
  exact h1 b (List.mem_of_getElem? h)
theorem tsB26 {a b : List (List D)} (h : a = b) : AV.ts 1 a 1 = AV.ts 1 b 1 := by rw [h]
set_option maxHeartbeats 8000000 in
theorem refData_ok (m : List (List UInt8)) (hm : ImOK m) (x : Ino) (hx : RI x) : FnC Tryz.prog 78 [.d (encM m), .dg 6 (encI x)] (.d (.st (dataV (imS m) x))) := by
  have hl := fun n => imS_len hm n
  have hz : 0 ≤ x.z ∧ x.z ≤ 128 := by
    rcases hx with h | h <;> omega
  have hdl : (dataV (imS m) x).length = x.z.toNat := by
    unfold dataV
    rw [List.length_take, List.length_append, List.length_append, List.length_append, hl, hl, hl, hl]; omega
  have hml : (m.map encS).length = m.length := List.length_map ..
  refine FnC.intro ti_ok Tryz.func78 rfl Tryz.ntmps78 Tryz.call78 rfl (Nat.le_of_ble_eq_true rfl) rfl ?_
  (repeat' ((conv=>whnf);first|with_reducible refine gA ?_|(with_reducible first|refine gB ?_|refine gZ (fun x hx hu=>?_)|refine gY (fun x hx=>?_)|refine gE ?_|refine Both.mk ?_ ?_|refine gS (fun h=>?_) (fun h=>?_)|refine Spl.nt ?_|refine Spl.mk (fun h=>?_) (fun h=>?_))))
  refine loop_rule ti_ok (fun i : Nat => (i : Int) ≤ x.z) (rdtA m x) (fun i => x.z.toNat - i) 0 hz.1 ⟨And.intro rfl (And.intro rfl (And.intro rfl (And.intro rfl trivial))), And.intro rfl (And.intro rfl trivial), rfl⟩ ?_
  intro i hi
  have htl : ((dataV (imS m) x).take i).length ≤ 128 := by rw [List.length_take]; omega
  have htl2 : (bytesD ((dataV (imS m) x).take i)).length ≤ 128 := by unfold bytesD; rw [List.length_map]; exact htl
  by_cases hiz : (i : Int) < x.z
  · have hq : i / 32 = 0 ∨ i / 32 = 1 ∨ i / 32 = 2 ∨ i / 32 = 3 := by omega
    obtain ⟨b, hb⟩ := lt_get (l := dataV (imS m) x) (k := i) (by omega)
    have hv1 : bytesD ((dataV (imS m) x).take i) ++ [[D.it .u8 b.toNat]] = bytesD ((dataV (imS m) x).take (i + 1)) := by rw [take_snoc hb, bytesD_app]; rfl
    rcases hq with hq | hq | hq | hq
    · have hbq : 1 ≤ x.b0 ∧ x.b0 ≤ 24 := by
        rcases hx with h | h
        · omega
        · have := h.2.2.2.1 (by omega)
          omega
      have hc := cat_at (f := imS m) hl x hq (by decide) hiz
      rw [hb] at hc
      have hc : (imS m (40 + x.b0))[i % 32]? = some b := hc.symm
      by_cases hat : 41 + x.b0 - 1 < (m.length : Int)
      · obtain ⟨s, hs⟩ := lt_get (l := m) (k := (41 + x.b0 - 1).toNat) (by omega)
        have hms : imS m (40 + x.b0) = s := by unfold imS; rw [List.getD_eq_getElem?_getD, show (40 + x.b0).toNat = (41 + x.b0 - 1).toNat by omega, hs]; rfl
        rw [hms] at hc
        have hbe := byte_at26 hc
        (repeat' ((conv=>whnf);first|with_reducible refine gA ?_|with_reducible refine LetI.eq 0 (by with_unfolding_all exact quo_at (by omega) hq) ?_ | with_reducible refine LetI.eq ((i % 32 : Nat) : Int) (by with_unfolding_all exact rem_at i) ?_ | with_reducible refine at_isM hs ?_ | ((with_reducible refine atD_id ?_); refine AtD.eq hbe ?_)|(with_reducible first|refine gB ?_|refine gZ (fun x hx hu=>?_)|refine gY (fun x hx=>?_)|refine gE ?_|refine Both.mk ?_ ?_|refine gS (fun h=>?_) (fun h=>?_)|refine Spl.nt ?_|refine Spl.mk (fun h=>?_) (fun h=>?_))))
        refine again (i + 1) (by omega) (by dsimp only; omega) (And.intro rfl (And.intro rfl (And.intro (tsB26 hv1) (And.intro (it_eq (by omega)) trivial)))) (And.intro rfl (And.intro rfl trivial)) rfl
      · have hms : imS m (40 + x.b0) = zeroS := by unfold imS; rw [List.getD_eq_getElem?_getD, List.getElem?_eq_none (by omega)]; rfl
        rw [hms] at hc
        have hb0 : b = 0 := zero_at hc
        (repeat' ((conv=>whnf);first|with_reducible refine gA ?_|with_reducible refine LetI.eq 0 (by with_unfolding_all exact quo_at (by omega) hq) ?_|(with_reducible first|refine gB ?_|refine gZ (fun x hx hu=>?_)|refine gY (fun x hx=>?_)|refine gE ?_|refine Both.mk ?_ ?_|refine gS (fun h=>?_) (fun h=>?_)|refine Spl.nt ?_|refine Spl.mk (fun h=>?_) (fun h=>?_))))
        refine again (i + 1) (by omega) (by dsimp only; omega) (And.intro rfl (And.intro rfl (And.intro (tsB26 (by rw [← hv1, hb0]; rfl)) (And.intro (it_eq (by omega)) trivial)))) (And.intro rfl (And.intro rfl trivial)) rfl
    · have hbq : 1 ≤ x.b1 ∧ x.b1 ≤ 24 := by
        rcases hx with h | h
        · omega
        · have := h.2.2.2.2.2.1 (by omega)
          omega
      have hc := cat_at (f := imS m) hl x hq (by decide) hiz
      rw [hb] at hc
      have hc : (imS m (40 + x.b1))[i % 32]? = some b := hc.symm
      by_cases hat : 41 + x.b1 - 1 < (m.length : Int)
      · obtain ⟨s, hs⟩ := lt_get (l := m) (k := (41 + x.b1 - 1).toNat) (by omega)
        have hms : imS m (40 + x.b1) = s := by unfold imS; rw [List.getD_eq_getElem?_getD, show (40 + x.b1).toNat = (41 + x.b1 - 1).toNat by omega, hs]; rfl
        rw [hms] at hc
        have hbe := byte_at26 hc
        (repeat' ((conv=>whnf);first|with_reducible refine gA ?_|with_reducible refine LetI.eq 1 (by with_unfolding_all exact quo_at (by omega) hq) ?_ | with_reducible refine LetI.eq ((i % 32 : Nat) : Int) (by with_unfolding_all exact rem_at i) ?_ | with_reducible refine at_isM hs ?_ | ((with_reducible refine atD_id ?_); refine AtD.eq hbe ?_)|(with_reducible first|refine gB ?_|refine gZ (fun x hx hu=>?_)|refine gY (fun x hx=>?_)|refine gE ?_|refine Both.mk ?_ ?_|refine gS (fun h=>?_) (fun h=>?_)|refine Spl.nt ?_|refine Spl.mk (fun h=>?_) (fun h=>?_))))
        refine again (i + 1) (by omega) (by dsimp only; omega) (And.intro rfl (And.intro rfl (And.intro (tsB26 hv1) (And.intro (it_eq (by omega)) trivial)))) (And.intro rfl (And.intro rfl trivial)) rfl
      · have hms : imS m (40 + x.b1) = zeroS := by unfold imS; rw [List.getD_eq_getElem?_getD, List.getElem?_eq_none (by omega)]; rfl
        rw [hms] at hc
        have hb0 : b = 0 := zero_at hc
        (repeat' ((conv=>whnf);first|with_reducible refine gA ?_|with_reducible refine LetI.eq 1 (by with_unfolding_all exact quo_at (by omega) hq) ?_|(with_reducible first|refine gB ?_|refine gZ (fun x hx hu=>?_)|refine gY (fun x hx=>?_)|refine gE ?_|refine Both.mk ?_ ?_|refine gS (fun h=>?_) (fun h=>?_)|refine Spl.nt ?_|refine Spl.mk (fun h=>?_) (fun h=>?_))))
        refine again (i + 1) (by omega) (by dsimp only; omega) (And.intro rfl (And.intro rfl (And.intro (tsB26 (by rw [← hv1, hb0]; rfl)) (And.intro (it_eq (by omega)) trivial)))) (And.intro rfl (And.intro rfl trivial)) rfl
    · have hbq : 1 ≤ x.b2 ∧ x.b2 ≤ 24 := by
        rcases hx with h | h
        · omega
        · have := h.2.2.2.2.2.2.2.1 (by omega)
          omega
      have hc := cat_at (f := imS m) hl x hq (by decide) hiz
      rw [hb] at hc
      have hc : (imS m (40 + x.b2))[i % 32]? = some b := hc.symm
      by_cases hat : 41 + x.b2 - 1 < (m.length : Int)
      · obtain ⟨s, hs⟩ := lt_get (l := m) (k := (41 + x.b2 - 1).toNat) (by omega)
        have hms : imS m (40 + x.b2) = s := by unfold imS; rw [List.getD_eq_getElem?_getD, show (40 + x.b2).toNat = (41 + x.b2 - 1).toNat by omega, hs]; rfl
        rw [hms] at hc
        have hbe := byte_at26 hc
        (repeat' ((conv=>whnf);first|with_reducible refine gA ?_|with_reducible refine LetI.eq 2 (by with_unfolding_all exact quo_at (by omega) hq) ?_ | with_reducible refine LetI.eq ((i % 32 : Nat) : Int) (by with_unfolding_all exact rem_at i) ?_ | with_reducible refine at_isM hs ?_ | ((with_reducible refine atD_id ?_); refine AtD.eq hbe ?_)|(with_reducible first|refine gB ?_|refine gZ (fun x hx hu=>?_)|refine gY (fun x hx=>?_)|refine gE ?_|refine Both.mk ?_ ?_|refine gS (fun h=>?_) (fun h=>?_)|refine Spl.nt ?_|refine Spl.mk (fun h=>?_) (fun h=>?_))))
        refine again (i + 1) (by omega) (by dsimp only; omega) (And.intro rfl (And.intro rfl (And.intro (tsB26 hv1) (And.intro (it_eq (by omega)) trivial)))) (And.intro rfl (And.intro rfl trivial)) rfl
      · have hms : imS m (40 + x.b2) = zeroS := by unfold imS; rw [List.getD_eq_getElem?_getD, List.getElem?_eq_none (by omega)]; rfl
        rw [hms] at hc
        have hb0 : b = 0 := zero_at hc
        (repeat' ((conv=>whnf);first|with_reducible refine gA ?_|with_reducible refine LetI.eq 2 (by with_unfolding_all exact quo_at (by omega) hq) ?_|(with_reducible first|refine gB ?_|refine gZ (fun x hx hu=>?_)|refine gY (fun x hx=>?_)|refine gE ?_|refine Both.mk ?_ ?_|refine gS (fun h=>?_) (fun h=>?_)|refine Spl.nt ?_|refine Spl.mk (fun h=>?_) (fun h=>?_))))
        refine again (i + 1) (by omega) (by dsimp only; omega) (And.intro rfl (And.intro rfl (And.intro (tsB26 (by rw [← hv1, hb0]; rfl)) (And.intro (it_eq (by omega)) trivial)))) (And.intro rfl (And.intro rfl trivial)) rfl
    · have hbq : 1 ≤ x.b3 ∧ x.b3 ≤ 24 := by
        rcases hx with h | h
        · omega
        · have := h.2.2.2.2.2.2.2.2.2.1 (by omega)
          omega
      have hc := cat_at (f := imS m) hl x hq (by decide) hiz
      rw [hb] at hc
      have hc : (imS m (40 + x.b3))[i % 32]? = some b := hc.symm
      by_cases hat : 41 + x.b3 - 1 < (m.length : Int)
      · obtain ⟨s, hs⟩ := lt_get (l := m) (k := (41 + x.b3 - 1).toNat) (by omega)
        have hms : imS m (40 + x.b3) = s := by unfold imS; rw [List.getD_eq_getElem?_getD, show (40 + x.b3).toNat = (41 + x.b3 - 1).toNat by omega, hs]; rfl
        rw [hms] at hc
        have hbe := byte_at26 hc
        (repeat' ((conv=>whnf);first|with_reducible refine gA ?_|with_reducible refine LetI.eq 3 (by with_unfolding_all exact quo_at (by omega) hq) ?_ | with_reducible refine LetI.eq ((i % 32 : Nat) : Int) (by with_unfolding_all exact rem_at i) ?_ | with_reducible refine at_isM hs ?_ | ((with_reducible refine atD_id ?_); refine AtD.eq hbe ?_)|(with_reducible first|refine gB ?_|refine gZ (fun x hx hu=>?_)|refine gY (fun x hx=>?_)|refine gE ?_|refine Both.mk ?_ ?_|refine gS (fun h=>?_) (fun h=>?_)|refine Spl.nt ?_|refine Spl.mk (fun h=>?_) (fun h=>?_))))
        refine again (i + 1) (by omega) (by dsimp only; omega) (And.intro rfl (And.intro rfl (And.intro (tsB26 hv1) (And.intro (it_eq (by omega)) trivial)))) (And.intro rfl (And.intro rfl trivial)) rfl
      · have hms : imS m (40 + x.b3) = zeroS := by unfold imS; rw [List.getD_eq_getElem?_getD, List.getElem?_eq_none (by omega)]; rfl
        rw [hms] at hc
        have hb0 : b = 0 := zero_at hc
        (repeat' ((conv=>whnf);first|with_reducible refine gA ?_|with_reducible refine LetI.eq 3 (by with_unfolding_all exact quo_at (by omega) hq) ?_|(with_reducible first|refine gB ?_|refine gZ (fun x hx hu=>?_)|refine gY (fun x hx=>?_)|refine gE ?_|refine Both.mk ?_ ?_|refine gS (fun h=>?_) (fun h=>?_)|refine Spl.nt ?_|refine Spl.mk (fun h=>?_) (fun h=>?_))))
        refine again (i + 1) (by omega) (by dsimp only; omega) (And.intro rfl (And.intro rfl (And.intro (tsB26 (by rw [← hv1, hb0]; rfl)) (And.intro (it_eq (by omega)) trivial)))) (And.intro rfl (And.intro rfl trivial)) rfl
  · have he : (dataV (imS m) x).take i = dataV (imS m) x := List.take_of_length_le (by omega)
    (repeat' ((conv=>whnf);first|with_reducible refine gA ?_|(with_reducible first|refine gB ?_|refine gZ (fun x hx hu=>?_)|refine gY (fun x hx=>?_)|refine gE ?_|refine Both.mk ?_ ?_|refine gS (fun h=>?_) (fun h=>?_)|refine Spl.nt ?_|refine Spl.mk (fun h=>?_) (fun h=>?_))))
    refine ⟨dataV (imS m) x, ?_, rfl⟩
    show bytesD ((dataV (imS m) x).take i) = _
    rw [he]
end Go.Proofs.YtijdbjjkfkjihaaGreatDoor

/- The nodes of a folder, by the document's answer. Conditions: none. -/
namespace Go.Proofs.YtijdbjjkfkjihaaGreatDoor
open Go.Sy
set_option maxRecDepth 100000
set_option linter.all false
theorem join_refway (l : List (List UInt8)) (hl : ∀ s ∈ l, s.length ≤ 8) (h4 : l.length ≤ 4) : FnC Tryz.prog 77 [.d (.fs 1 (vS l))] (.d (.st (joinR l))) := by
  have := joinP_len8 l hl
  exact refJoin_ok l (by omega) (by omega)
def inT8 : Tr := (.cons 0 (.cons 1 (.cons 2 (.cons 3 (.cons 4 (.cons 5 (.cons 6 .nil .nil) .nil) .nil) .nil) .nil) (.cons 2 (.cons 1 (.cons 3 (.cons 4 (.cons 5 (.cons 6 .nil .nil) .nil) .nil) .nil) (.cons 3 (.cons 1 (.cons 4 (.cons 5 (.cons 6 .nil .nil) .nil) .nil) (.cons 4 (.cons 1 (.cons 5 (.cons 6 .nil .nil) .nil) .nil) .nil)) .nil)) .nil)) (.cons 2 (.cons 0 (.cons 1 (.cons 3 (.cons 4 (.cons 5 (.cons 6 .nil .nil) .nil) .nil) .nil) (.cons 3 (.cons 1 (.cons 4 (.cons 5 (.cons 6 .nil .nil) .nil) .nil) (.cons 4 (.cons 1 (.cons 5 (.cons 6 .nil .nil) .nil) .nil) .nil)) .nil)) (.cons 3 (.cons 0 (.cons 1 (.cons 4 (.cons 5 (.cons 6 .nil .nil) .nil) .nil) (.cons 4 (.cons 1 (.cons 5 (.cons 6 .nil .nil) .nil) .nil) .nil)) (.cons 4 (.cons 0 (.cons 1 (.cons 5 (.cons 6 .nil .nil) .nil) .nil) .nil) .nil)) .nil)) .nil))
theorem tupR {q r : List Nod × Bool} (h : q = r) : AV.tup [.ts 3 (q.1.map encN) 0, .d (.bl q.2)] = AV.tup [.ts 3 (r.1.map encN) 0, .d (.bl r.2)] := by rw [h]
theorem topV_long {L R : List Nod} (h : 64 ≤ L.length) (h2 : 64 < (L ++ R).length) : topV (L ++ R) = (L.take 64, false) := by unfold topV; rw [List.take_append_of_le_length h, decide_eq_false (by omega)]
def riA (m : List (List UInt8)) (n : Int) (way N : List (List UInt8)) (i : Nat) (O : List (List D)) : S := ⟨[(0, .d (encM m)), (1, .d (.it .i64 n)), (2, .d (.fs 1 (vS way))), (3, .ts 3 O 0), (10, .d (.fs 1 (vS N))), (11, .d (.it .i64 (i : Nat)))], [(0, .tail 35 true), (1, .frame 2 [])], 3⟩
set_option maxHeartbeats 8000000 in
theorem refIn_ok (m : List (List UInt8)) (hm : ImOK m) : ∀ (j : Nat) (n : Int) (way : List (List UInt8)) (out : List Nod), way.length + j = 4 → (∀ s ∈ way, s.length ≤ 8) → out.length ≤ 64 →
    FnH Tryz.prog 32 [.d (encM m), .d (.it .i64 n), .d (.fs 1 (vS way)), .ts 3 (out.map encN) 0] [(0, .tail 35 true)] 1 [] (.tup [.ts 3 ((topV (out ++ subV (imS m) j n way)).1.map encN) 0, .d (.bl (topV (out ++ subV (imS m) j n way)).2)]) [(0, .tail 35 true)] 1
  | 0, n, way, out, hw, hwn, ho => by
    have hls := refList_ok m hm n
    have hwl : (vS way).length = way.length := List.length_map ..
    have hT : topV (out ++ subV (imS m) 0 n way) = (out, true) := by
      show topV (out ++ []) = _
      rw [List.append_nil]; unfold topV; rw [List.take_of_length_le ho, decide_eq_true ho]
    rw [hT]
    refine FnH.intro ti_ok Tryz.func32 rfl Tryz.ntmps32 Tryz.call32 rfl rfl rfl (Nat.le_refl _) rfl rfl rfl rfl rfl (fun T => ?_)
    (repeat' ((conv=>whnf);first|with_reducible refine gA ?_|((with_reducible refine callE_id ?_); refine CallE.con ⟨_, hls, ?_⟩)|(with_reducible first|refine gB ?_|refine gZ (fun x hx hu=>?_)|refine gY (fun x hx=>?_)|refine gE ?_|refine Both.mk ?_ ?_|refine gS (fun h=>?_) (fun h=>?_)|refine Spl.nt ?_|refine Spl.mk (fun h=>?_) (fun h=>?_))))
    conv => whnf
    refine LoopS.unroll ti_ok 1 ?_
    (repeat' ((conv=>whnf);first|with_reducible refine gA ?_|(with_reducible first|refine gB ?_|refine gZ (fun x hx hu=>?_)|refine gY (fun x hx=>?_)|refine gE ?_|refine Both.mk ?_ ?_|refine gS (fun h=>?_) (fun h=>?_)|refine Spl.nt ?_|refine Spl.mk (fun h=>?_) (fun h=>?_))))
    all_goals exact finH_now rfl (And.intro rfl trivial) (And.intro rfl trivial)
  | j + 1, n, way, out, hw, hwn, ho => by
    have ih := refIn_ok m hm j
    have hls := refList_ok m hm n
    have hwl : (vS way).length = way.length := List.length_map ..
    refine FnH.intro ti_ok Tryz.func32 rfl Tryz.ntmps32 Tryz.call32 rfl rfl rfl (Nat.le_refl _) rfl rfl rfl rfl rfl (fun T => ?_)
    (repeat' ((conv=>whnf);first|with_reducible refine gA ?_|((with_reducible refine callE_id ?_); refine CallE.con ⟨_, hls, ?_⟩)|(with_reducible first|refine gB ?_|refine gZ (fun x hx hu=>?_)|refine gY (fun x hx=>?_)|refine gE ?_|refine Both.mk ?_ ?_|refine gS (fun h=>?_) (fun h=>?_)|refine Spl.nt ?_|refine Spl.mk (fun h=>?_) (fun h=>?_))))
    conv => whnf
    have hnl : (vS (nms (imS m) n)).length = (nms (imS m) n).length := List.length_map ..
    have hkb := nms_len (imS m) n
    generalize hTT : out ++ subV (imS m) (j + 1) n way = TT
    refine loop_ruleW ti_ok (fun x : Nat × List Nod => x.1 ≤ (nms (imS m) n).length ∧ x.2.length ≤ 64 ∧ x.2 ++ subL (imS m) j n way ((nms (imS m) n).drop x.1) = TT) (fun x => riA m n way (nms (imS m) n) x.1 (x.2.map encN)) (fun x => (nms (imS m) n).length - x.1) (0, out) ⟨Nat.zero_le _, ho, hTT⟩ (Wk.en ⟨by (repeat (first | exact trivial | refine And.intro rfl ?_)), by (repeat (first | exact trivial | refine And.intro rfl ?_)), rfl⟩) ?_
    intro ⟨i, out1⟩ ⟨k1, ho1, hT⟩
    dsimp only at k1 ho1 hT
    have hol : (out1.map encN).length = out1.length := List.length_map ..
    rcases Nat.lt_or_ge i (nms (imS m) n).length with hkl | hkl
    · obtain ⟨s, hs⟩ := lt_get hkl
      have hx : (vS (nms (imS m) n))[i]? = some [.st s] := by unfold vS; rw [List.getElem?_map, hs]; rfl
      have hsn := name_len (nms_name (imS m) n s (List.mem_of_getElem? hs))
      have hwn2 : ∀ t ∈ way ++ [s], t.length ≤ 8 := fun t ht => by
        rcases List.mem_append.1 ht with ht | ht
        · exact hwn t ht
        · rw [List.mem_singleton.1 ht]; exact hsn
      have hw2 : (way ++ [s]).length + j = 4 := by rw [List.length_append, List.length_singleton]; omega
      have hf := refFind_ok m hm n s
      rw [fndV_eq] at hf
      have he := refEntry_ok m hm (kOf (imS m) n s)
      have hi := refInode_ok m hm (mOf (imS m) n s)
      have hj := join_refway (way ++ [s]) hwn2 (by omega)
      have hda := refData_ok m hm (inoAt (imS m) (mOf (imS m) n s)) (inoAt_RI _ _)
      rw [drop_at14 hs, subL_cons] at hT
      have hwo : vS way ++ [[.st s]] = vS (way ++ [s]) := by unfold vS; rw [List.map_append]; rfl
      have hvl : (vS (way ++ [s])).length ≤ 4 := by unfold vS; rw [List.length_map]; omega
      have hmap : (out1.map encN ++ [encN (nodV (imS m) way n s)]) = (out1 ++ [(nodV (imS m) way n s)]).map encN := by rw [List.map_append]; rfl
      have hE : out1.length = 64 → (out1, false) = topV TT := fun h => by
        rw [← hT, topV_long (by omega) (by rw [List.length_append, List.length_cons]; omega), List.take_of_length_le (by omega)]
      have hT2 : (inoAt (imS m) (mOf (imS m) n s)).k = 2 → ((out1 ++ [(nodV (imS m) way n s)]) ++ subV (imS m) j (mOf (imS m) n s) (way ++ [s])) ++ subL (imS m) j n way ((nms (imS m) n).drop (i + 1)) = TT := fun h => by
        rw [← hT, if_pos h]; simp only [List.append_assoc, List.cons_append, List.nil_append]
      have hT3 : ¬ (inoAt (imS m) (mOf (imS m) n s)).k = 2 → (out1 ++ [(nodV (imS m) way n s)]) ++ subL (imS m) j n way ((nms (imS m) n).drop (i + 1)) = TT := fun h => by
        rw [← hT, if_neg h]; simp only [List.append_assoc, List.cons_append, List.nil_append]
      have hE2 : (inoAt (imS m) (mOf (imS m) n s)).k = 2 → ¬ ((out1 ++ [(nodV (imS m) way n s)]) ++ subV (imS m) j (mOf (imS m) n s) (way ++ [s])).length ≤ 64 → (((out1 ++ [(nodV (imS m) way n s)]) ++ subV (imS m) j (mOf (imS m) n s) (way ++ [s])).take 64, false) = topV TT := fun h h2 => by
        rw [← hT2 h, topV_long (by omega) (by rw [List.length_append]; omega)]
      have hmu : (nms (imS m) n).length - (i + 1) < (nms (imS m) n).length - i := by omega
      clear hT
      (repeat' ((conv=>whnf);first|with_reducible refine gA ?_|((with_reducible refine callE_id ?_); first | refine CallE.con ⟨_, hf, ?_⟩ | refine CallE.con ⟨_, he, ?_⟩ | refine CallE.con ⟨_, hi, ?_⟩)|(with_reducible first|refine gB0 ?_|refine gZ (fun x hx hu=>?_)|refine gY (fun x hx=>?_)|refine gE ?_|refine Both.mk ?_ ?_|refine gS (fun h=>?_) (fun h=>?_)|refine Spl.nt ?_|refine Spl.mk (fun h=>?_) (fun h=>?_))))
      conv => whnf
      refine DrawS.join ⟨[(0, .d (encM m)), (1, .d (.it .i64 n)), (2, .d (.fs 1 (vS way))), (3, .ts 3 (out1.map encN) 0), (10, .d (.fs 1 (vS (nms (imS m) n)))), (11, .d (.it .i64 (i : Nat))), (14, .d (.it .i64 (mOf (imS m) n s))), (15, .ptr 3 0), (16, .d (.fs 1 (vS (way ++ [s]))))], [(0, .tail 35 true), (1, .frame 2 []), (3, .cells 6 ((encI (inoAt (imS m) (mOf (imS m) n s))).map .d)), (4, .tag 3 50)], 5⟩ (draw_htree ti_ok mixed [1, 2, 2] inT8 (by decide +kernel) ?_) ?_
      · (repeat' ((conv=>whnf);first|with_reducible refine gA ?_|with_reducible refine Br.mk ?_ ?_ | with_reducible exact trivial|(with_reducible first|refine gB ?_|refine gZ (fun x hx hu=>?_)|refine gY (fun x hx=>?_)|refine gE ?_|refine Both.mk ?_ ?_|refine gS (fun h=>?_) (fun h=>?_)|refine Spl.nt ?_|refine Spl.mk (fun h=>?_) (fun h=>?_))))
        all_goals exact Wk.vwL (by (repeat (first | exact trivial | refine And.intro (Vw.eq rfl) ?_ | refine And.intro (Vw.ts' hwo) ?_))) (by (repeat (first | exact trivial | refine And.intro (VwO.same _) ?_))) rfl
      by_cases hk2 : (inoAt (imS m) (mOf (imS m) n s)).k = 2
      · by_cases hle : ((out1 ++ [(nodV (imS m) way n s)]) ++ subV (imS m) j (mOf (imS m) n s) (way ++ [s])).length ≤ 64
        · have hin := fun hlo => ih (mOf (imS m) n s) (way ++ [s]) (out1 ++ [(nodV (imS m) way n s)]) hw2 hwn2 hlo
          rw [← hmap, show topV ((out1 ++ [(nodV (imS m) way n s)]) ++ subV (imS m) j (mOf (imS m) n s) (way ++ [s])) = ((out1 ++ [(nodV (imS m) way n s)]) ++ subV (imS m) j (mOf (imS m) n s) (way ++ [s]), true) by unfold topV; rw [List.take_of_length_le hle, decide_eq_true hle]] at hin
          (repeat' ((conv=>whnf);first|with_reducible refine gA ?_|((with_reducible refine callE_id ?_); first | refine CallE.con ⟨_, hj, ?_⟩ | refine CallE.con ⟨_, hda, ?_⟩ | refine CallE.inl ?_) | refine CallP.mk ⟨_, hj, ?_⟩ | refine CallP.mk ⟨_, hda, ?_⟩ | refine CallI.byH (hin (by rw [List.length_append, List.length_singleton]; omega)) [0] (by with_unfolding_all exact rfl) ⟨rfl, by decide, by with_unfolding_all exact rfl⟩ (And.intro rfl trivial) rfl rfl ?_|(with_reducible first|refine gB ?_|refine gZ (fun x hx hu=>?_)|refine gY (fun x hx=>?_)|refine gE ?_|refine Both.mk ?_ ?_|refine gS (fun h=>?_) (fun h=>?_)|refine Spl.nt ?_|refine Spl.mk (fun h=>?_) (fun h=>?_))))
          · exact finH_now (tupR (hE (by omega))) (And.intro rfl trivial) (And.intro rfl trivial)
          · exact ⟨(i + 1, (out1 ++ [(nodV (imS m) way n s)]) ++ subV (imS m) j (mOf (imS m) n s) (way ++ [s])), ⟨hkl, hle, hT2 hk2⟩, hmu, Wk.enF (And.intro rfl (And.intro rfl (And.intro rfl (And.intro rfl (And.intro rfl (And.intro (it_eq (by first | omega | (dsimp only; omega))) trivial)))))) (by (repeat (first | exact trivial | refine And.intro (obw_eq rfl (by with_unfolding_all exact rfl)) ?_ | refine And.intro (obw_fr (by with_unfolding_all exact rfl) (by (repeat (first | exact trivial | refine And.intro (by with_unfolding_all exact rfl) ?_)))) ?_))) rfl⟩
        · have hin := fun hlo => ih (mOf (imS m) n s) (way ++ [s]) (out1 ++ [(nodV (imS m) way n s)]) hw2 hwn2 hlo
          rw [← hmap, show topV ((out1 ++ [(nodV (imS m) way n s)]) ++ subV (imS m) j (mOf (imS m) n s) (way ++ [s])) = (((out1 ++ [(nodV (imS m) way n s)]) ++ subV (imS m) j (mOf (imS m) n s) (way ++ [s])).take 64, false) by unfold topV; rw [decide_eq_false hle]] at hin
          (repeat' ((conv=>whnf);first|with_reducible refine gA ?_|((with_reducible refine callE_id ?_); first | refine CallE.con ⟨_, hj, ?_⟩ | refine CallE.con ⟨_, hda, ?_⟩ | refine CallE.inl ?_) | refine CallP.mk ⟨_, hj, ?_⟩ | refine CallP.mk ⟨_, hda, ?_⟩ | refine CallI.byH (hin (by rw [List.length_append, List.length_singleton]; omega)) [0] (by with_unfolding_all exact rfl) ⟨rfl, by decide, by with_unfolding_all exact rfl⟩ (And.intro rfl trivial) rfl rfl ?_|(with_reducible first|refine gB ?_|refine gZ (fun x hx hu=>?_)|refine gY (fun x hx=>?_)|refine gE ?_|refine Both.mk ?_ ?_|refine gS (fun h=>?_) (fun h=>?_)|refine Spl.nt ?_|refine Spl.mk (fun h=>?_) (fun h=>?_))))
          · exact finH_now (tupR (hE (by omega))) (And.intro rfl trivial) (And.intro rfl trivial)
          · exact finH_now (tupR (hE2 hk2 hle)) (And.intro rfl trivial) (And.intro rfl trivial)
      · (repeat' ((conv=>whnf);first|with_reducible refine gA ?_|((with_reducible refine callE_id ?_); first | refine CallE.con ⟨_, hj, ?_⟩ | refine CallE.con ⟨_, hda, ?_⟩ | refine CallE.inl ?_) | refine CallP.mk ⟨_, hj, ?_⟩ | refine CallP.mk ⟨_, hda, ?_⟩|(with_reducible first|refine gB ?_|refine gZ (fun x hx hu=>?_)|refine gY (fun x hx=>?_)|refine gE ?_|refine Both.mk ?_ ?_|refine gS (fun h=>?_) (fun h=>?_)|refine Spl.nt ?_|refine Spl.mk (fun h=>?_) (fun h=>?_))))
        · exact finH_now (tupR (hE (by omega))) (And.intro rfl trivial) (And.intro rfl trivial)
        · have hlo : (out1 ++ [(nodV (imS m) way n s)]).length ≤ 64 := by rw [List.length_append, List.length_singleton]; omega
          exact ⟨(i + 1, out1 ++ [(nodV (imS m) way n s)]), ⟨hkl, hlo, hT3 hk2⟩, hmu, wk_tr (congrArg (fun O => riA m n way (nms (imS m) n) (i + 1) O) hmap) (Wk.enF (And.intro rfl (And.intro rfl (And.intro rfl (And.intro rfl (And.intro rfl (And.intro (it_eq (by first | omega | (dsimp only; omega))) trivial)))))) (by (repeat (first | exact trivial | refine And.intro (obw_eq rfl (by with_unfolding_all exact rfl)) ?_ | refine And.intro (obw_fr (by with_unfolding_all exact rfl) (by (repeat (first | exact trivial | refine And.intro (by with_unfolding_all exact rfl) ?_)))) ?_))) rfl)⟩
    · have hN : (out1, true) = topV TT := by
        have e : out1 = TT := by
          rw [← hT, List.drop_of_length_le hkl]; exact (List.append_nil _).symm
        rw [← e]; unfold topV; rw [List.take_of_length_le ho1, decide_eq_true ho1]
      (repeat' ((conv=>whnf);first|with_reducible refine gA ?_|(with_reducible first|refine gB ?_|refine gZ (fun x hx hu=>?_)|refine gY (fun x hx=>?_)|refine gE ?_|refine Both.mk ?_ ?_|refine gS (fun h=>?_) (fun h=>?_)|refine Spl.nt ?_|refine Spl.mk (fun h=>?_) (fun h=>?_))))
      exact finH_now (tupR hN) (And.intro rfl trivial) (And.intro rfl trivial)
end Go.Proofs.YtijdbjjkfkjihaaGreatDoor

/- The tree of an image, by the document's answer. Conditions: none. -/
namespace Go.Proofs.YtijdbjjkfkjihaaGreatDoor
open Go.Sy
set_option maxRecDepth 100000
set_option linter.all false
theorem FnH.arg {P : Program} {f : Nat} {args args' : List AV} {pre : List (Nat × Ob)} {n : Nat} {st : List Nat} {r : AV} {post : List (Nat × Ob)} {m : Nat} (hC : FnH P f args pre n st r post m) (hl : args'.length = args.length) (ha : args'.all (AV.lt n) = true) (h : ∀ (g : Gh) (j : Nat) (h1 : j < args'.length) (h2 : j < args.length) (x : Value), AVR g args'[j] x → AVR g args[j] x) : FnH P f args' pre n st r post m :=
  { hC with a := ha, run := fun g w vs h1 h2 h3 h4 h5 => hC.run g w vs h1 h2 h3 (by omega) (fun j hj => h g j (by omega) hj _ (h5 j (by omega))) }
theorem nil_d {g : Gh} {a b : Nat} {v : Value} (h : AVR g (.d (.fs a [])) v) : AVR g (.d (.fs b [])) v := by
  cases h with | d _ _ hd => ?_
  cases hd with
  | fs0 => exact .d _ _ (.fs0 _ _ _)
  | fs _ _ _ _ _ _ _ hl =>
    obtain rfl : 0 = _ := hl
    exact .d _ _ (.fs0 _ _ _)
theorem refTree_ok (m : List (List UInt8)) (hm : ImOK m) : FnC Tryz.prog 10 [.d (encM m)] (tupN (treeV (imS m))) := by
  have hi := refInode_ok m hm 0
  unfold treeV
  by_cases hk : (inoAt (imS m) 0).k = 2
  · rw [if_pos hk]
    have hin : FnH Tryz.prog 32 ([.d (encM m), .d (.it .i64 0), .d (.fs 0 [])] ++ [.ts 3 [] 0]) [(0, .tail 35 true)] 1 [] (.tup [.ts 3 ((topV (subV (imS m) 4 0 [])).1.map encN) 0, .d (.bl (topV (subV (imS m) 4 0 [])).2)]) [(0, .tail 35 true)] 1 :=
      FnH.arg (refIn_ok m hm 4 0 [] [] rfl (fun s hs => by cases hs) (Nat.zero_le _)) rfl rfl fun g j h1 h2 x hx => by
        match j, h1, h2 with
        | 0, _, _ => exact hx
        | 1, _, _ => exact hx
        | 2, _, _ => exact nil_d hx
        | 3, _, _ => exact hx
    refine FnC.intro ti_ok Tryz.func10 rfl Tryz.ntmps10 Tryz.call10 rfl (Nat.le_of_ble_eq_true rfl) rfl ?_
    (repeat' ((conv=>whnf);first|with_reducible refine gA ?_|((with_reducible refine callE_id ?_); first | refine CallE.con ⟨_, hi, ?_⟩ | refine CallE.inl ?_) | refine CallI.byHn 3 35 (l0 := [.d (encM m), .d (.it .i64 0), .d (.fs 0 [])]) hin rfl rfl rfl ⟨.inl rfl, .inl rfl, .inl rfl, trivial⟩ rfl rfl ?_|(with_reducible first|refine gB ?_|refine gZ (fun x hx hu=>?_)|refine gY (fun x hx=>?_)|refine gE ?_|refine Both.mk ?_ ?_|refine gS (fun h=>?_) (fun h=>?_)|refine Spl.nt ?_|refine Spl.mk (fun h=>?_) (fun h=>?_))))
    exact rfl
  · rw [if_neg hk]
    refine FnC.intro ti_ok Tryz.func10 rfl Tryz.ntmps10 Tryz.call10 rfl (Nat.le_of_ble_eq_true rfl) rfl ?_
    (repeat' ((conv=>whnf);first|with_reducible refine gA ?_|((with_reducible refine callE_id ?_); refine CallE.con ⟨_, hi, ?_⟩)|(with_reducible first|refine gB ?_|refine gZ (fun x hx hu=>?_)|refine gY (fun x hx=>?_)|refine gE ?_|refine Both.mk ?_ ?_|refine gS (fun h=>?_) (fun h=>?_)|refine Spl.nt ?_|refine Spl.mk (fun h=>?_) (fun h=>?_))))
    exact rfl
end Go.Proofs.YtijdbjjkfkjihaaGreatDoor

/- The law of trees. Conditions: none. -/
namespace Go.Proofs.YtijdbjjkfkjihaaGreatDoor
open Go.Sy
set_option maxRecDepth 100000
set_option linter.all false
section
variable {f g : Int → List UInt8} (h : ∀ n : Int, 0 ≤ n → f n = g n)
include h
theorem ino_fe : inoAt f = inoAt g := funext (inoAt_eq h)
theorem ent_fe : entAt f = entAt g := funext (entAt_eq h)
theorem nms_fe (p : Int) : nms f p = nms g p := by
  unfold nms nmsK
  rw [ent_fe h]
  congr 2
  congr 1
  refine List.filter_congr fun j _ => decide_eq_decide.2 ?_
  unfold stdP
  rw [ent_fe h, ino_fe h]
theorem fnd_fe (p : Int) (s : List UInt8) : fndK f p s = fndK g p s := by
  unfold fndK
  congr 1
  funext k
  refine decide_eq_decide.2 ?_
  unfold fndP stdP
  rw [ent_fe h, ino_fe h]
theorem mOf_fe (p : Int) (s : List UInt8) : mOf f p s = mOf g p s := by
  unfold mOf kOf
  rw [fnd_fe h, ent_fe h]
theorem data_fe {x : Ino} (hx : RI x) : dataV f x = dataV g x := by
  have hb : 0 ≤ x.b0 ∧ 0 ≤ x.b1 ∧ 0 ≤ x.b2 ∧ 0 ≤ x.b3 := by
    rcases hx with h | h
    · omega
    · refine ⟨?_, ?_, ?_, ?_⟩ <;> omega
  unfold dataV
  rw [h _ (by omega), h _ (by omega), h _ (by omega), h _ (by omega)]
theorem nod_fe (way : List (List UInt8)) (n : Int) (s : List UInt8) : nodV f way n s = nodV g way n s := by
  unfold nodV
  rw [mOf_fe h, ino_fe h, data_fe h (inoAt_RI g _)]
theorem sub_fe : ∀ (j : Nat) (n : Int) (way : List (List UInt8)), subV f j n way = subV g j n way
  | 0, _, _ => rfl
  | j + 1, n, way => by
    unfold subV
    rw [nms_fe h]
    congr 1
    funext s
    rw [nod_fe h, mOf_fe h, ino_fe h, sub_fe j]
theorem tree_fe : treeV f = treeV g := by
  unfold treeV
  rw [ino_fe h, sub_fe h]
end
theorem tree_dsk (m : List (List UInt8)) (ws : List Wr) : treeV (rdS (dskOf m ws)) = treeV (imS (withF m ws)) := tree_fe fun n h => rd_im m ws n h
theorem treeV_len (f : Int → List UInt8) : (treeV f).1.length ≤ 64 := by
  unfold treeV topV
  split
  · exact List.length_take_le ..
  · exact Nat.zero_le _
theorem bself (b : Bool) : (b == b) = true := beq_self_eq_true _
theorem tells_ok (m : List (List UInt8)) (hm : ImOK m) (ws : List Wr) (hw : WsOK ws) : FnC Tryz.prog 3 [.d (encM m), .d (.fs 36 (ws.map encW))] (.d (.bl true)) := by
  have kk := knows14_ok
  have h1 : (m.map encS).length = m.length := List.length_map ..
  have h2 : (ws.map encW).length = ws.length := List.length_map ..
  by_cases hml : m.length ≤ 200
  · by_cases hwl : ws.length ≤ 40
    · have a1 := disk_ok m hm ws hw (by omega) (by omega)
      have a2 := tree_ok (dskOf m ws) (dsk_OK hm hw (by omega))
      have a3 := with_ok m hm ws hw (by omega) (by omega)
      have a4 := refTree_ok (withF m ws) (with_OK hm hw)
      rw [tree_dsk] at a2
      have hl := treeV_len (imS (withF m ws))
      have a5 := sameN_ok (treeV (imS (withF m ws))).1 (treeV (imS (withF m ws))).1 (by omega)
      rw [decide_eq_true rfl] at a5
      unfold tupN at a2 a4
      generalize treeV (imS (withF m ws)) = T at a2 a4 a5
      generalize dskOf m ws = dk at a1 a2
      generalize withF m ws = wm at a3 a4
      refine FnC.intro ti_ok Tryz.func3 rfl Tryz.ntmps3 Tryz.call3 rfl (Nat.le_of_ble_eq_true rfl) rfl ?_
      (repeat' ((conv=>whnf);first|with_reducible refine gA ?_|((with_reducible refine callE_id ?_); first | refine CallE.con ⟨_, kk, ?_⟩ | refine CallE.con ⟨_, a1, ?_⟩ | refine CallE.con ⟨_, a2, ?_⟩ | refine CallE.con ⟨_, a3, ?_⟩ | refine CallE.con ⟨_, a4, ?_⟩ | refine CallE.con ⟨_, a5, ?_⟩) | with_reducible refine Spl.yes (bself _) ?_|(with_reducible first|refine gB ?_|refine gZ (fun x hx hu=>?_)|refine gY (fun x hx=>?_)|refine gE ?_|refine Both.mk ?_ ?_|refine gS (fun h=>?_) (fun h=>?_)|refine Spl.nt ?_|refine Spl.mk (fun h=>?_) (fun h=>?_))))
      exact rfl
    · refine FnC.intro ti_ok Tryz.func3 rfl Tryz.ntmps3 Tryz.call3 rfl (Nat.le_of_ble_eq_true rfl) rfl ?_
      (repeat' ((conv=>whnf);first|with_reducible refine gA ?_|((with_reducible refine callE_id ?_); refine CallE.con ⟨_, kk, ?_⟩)|(with_reducible first|refine gB ?_|refine gZ (fun x hx hu=>?_)|refine gY (fun x hx=>?_)|refine gE ?_|refine Both.mk ?_ ?_|refine gS (fun h=>?_) (fun h=>?_)|refine Spl.nt ?_|refine Spl.mk (fun h=>?_) (fun h=>?_))))
      exact rfl
  · refine FnC.intro ti_ok Tryz.func3 rfl Tryz.ntmps3 Tryz.call3 rfl (Nat.le_of_ble_eq_true rfl) rfl ?_
    (repeat' ((conv=>whnf);first|with_reducible refine gA ?_|((with_reducible refine callE_id ?_); refine CallE.con ⟨_, kk, ?_⟩)|(with_reducible first|refine gB ?_|refine gZ (fun x hx hu=>?_)|refine gY (fun x hx=>?_)|refine gE ?_|refine Both.mk ?_ ?_|refine gS (fun h=>?_) (fun h=>?_)|refine Spl.nt ?_|refine Spl.mk (fun h=>?_) (fun h=>?_))))
    exact rfl
end Go.Proofs.YtijdbjjkfkjihaaGreatDoor

/- The card of ViewTells. Conditions: none. -/
namespace Go.Proofs.YtijdbjjkfkjihaaGreatDoor
open Go.Sy Go.ChangeShapes Go.WideShapes Go.ChangeAt Go.RowKit
set_option maxRecDepth 100000
set_option linter.all false
def plainT : List Nat := [5, 60, 22, 3, 62, 64, 23]
theorem closed : closedB ti plainT = true := by decide +kernel
theorem shp_byte {n : Nat} {ds : List D} (h : Shp ti n 5 ds) : ∃ b : UInt8, ds = [.it .u8 b.toNat] := by
  match n, h with
  | n + 1, h =>
    obtain ⟨z, rfl, h1, h2⟩ := h
    have h1' : (0 : Int) ≤ z := h1
    have h2' : z ≤ 255 := h2
    refine ⟨by8e z, ?_⟩
    rw [by8e_ok (by omega)]
theorem shp_bytes {n : Nat} : ∀ {m : Nat} {ds : List D}, ShpN (Shp ti n 5) m ds → ∃ s : List UInt8, s.length = m ∧ ds = encS s
  | 0, ds, h => ⟨[], rfl, h⟩
  | m + 1, ds, h => by
    obtain ⟨a, b, rfl, h1, h2⟩ := h
    obtain ⟨c, rfl⟩ := shp_byte h1
    obtain ⟨s, hs, rfl⟩ := shp_bytes h2
    exact ⟨c :: s, by simp [hs], rfl⟩
theorem shp_sec {n : Nat} {ds : List D} (h : Shp ti n 60 ds) : ∃ s : List UInt8, s.length = 32 ∧ ds = encS s := by
  match n, h with
  | n + 1, h => exact shp_bytes (n := n) (m := 32) h
theorem shp_secs {n : Nat} : ∀ {es : List (List D)}, (∀ x ∈ es, Shp ti n 60 x) → ∃ m : List (List UInt8), ImOK m ∧ es = m.map encS
  | [], _ => ⟨[], (fun s hs => by cases hs), rfl⟩
  | x :: es, h => by
    obtain ⟨s, hs, rfl⟩ := shp_sec (h x List.mem_cons_self)
    obtain ⟨m, hm, rfl⟩ := shp_secs (fun y hy => h y (List.mem_cons_of_mem _ hy))
    refine ⟨s :: m, fun t ht => ?_, rfl⟩
    rcases List.mem_cons.1 ht with rfl | ht
    · exact hs
    · exact hm t ht
theorem shp_img {n : Nat} {x : D} (h : Shp ti n 22 [x]) : ∃ m : List (List UInt8), ImOK m ∧ x = encM m := by
  match n, h with
  | n + 1, h =>
    obtain ⟨es, hl, _, he⟩ := h
    obtain ⟨m, hm, rfl⟩ := shp_secs he
    exact ⟨m, hm, by simpa using hl⟩
theorem shp_int {n : Nat} {ds : List D} (h : Shp ti n 3 ds) : ∃ z : Int, ds = [.it .i64 z] := by
  match n, h with
  | n + 1, h =>
    obtain ⟨z, rfl, _⟩ := h
    exact ⟨z, rfl⟩
theorem shp_wr {n : Nat} {ds : List D} (h : Shp ti n 64 ds) : ∃ w : Wr, w.s.length = 32 ∧ ds = encW w := by
  match n, h with
  | n + 1, h =>
    obtain ⟨a, b, rfl, ha, c, d, rfl, hc, e, f, rfl, he, g, q, rfl, hg, rfl⟩ := h
    obtain ⟨za, rfl⟩ := shp_int ha
    obtain ⟨s, hs, rfl⟩ := shp_sec hc
    obtain ⟨ze, rfl⟩ := shp_int hg
    match n, he with
    | n + 1, he =>
      obtain ⟨k, i, rfl, hk, j, r, rfl, hj, rfl⟩ := he
      obtain ⟨zk, rfl⟩ := shp_int hk
      obtain ⟨zj, rfl⟩ := shp_int hj
      exact ⟨⟨za, s, zk, zj, ze⟩, hs, by simp [encW]⟩
theorem shp_wrs {n : Nat} : ∀ {es : List (List D)}, (∀ x ∈ es, Shp ti n 64 x) → ∃ l : List Wr, WsOK l ∧ es = l.map encW
  | [], _ => ⟨[], (fun s hs => by cases hs), rfl⟩
  | x :: es, h => by
    obtain ⟨s, hs, rfl⟩ := shp_wr (h x List.mem_cons_self)
    obtain ⟨m, hm, rfl⟩ := shp_wrs (fun y hy => h y (List.mem_cons_of_mem _ hy))
    refine ⟨s :: m, fun t ht => ?_, rfl⟩
    rcases List.mem_cons.1 ht with rfl | ht
    · exact hs
    · exact hm t ht
theorem shp_ws {n : Nat} {x : D} (h : Shp ti n 23 [x]) : ∃ l : List Wr, WsOK l ∧ x = .fs 36 (l.map encW) := by
  match n, h with
  | n + 1, h =>
    obtain ⟨es, hl, _, he⟩ := h
    obtain ⟨m, hm, rfl⟩ := shp_wrs he
    exact ⟨m, hm, by simpa using hl⟩
theorem own : ownKnob Tryz.prog.godebug = none := by kernel_rfl
theorem laidOut : laidOutB Tryz.prog = true := by kernel_rfl

namespace tells
/-- For every argument and every world. -/
theorem contract (H : Type) (enc : TypeId × Value → H) (W : World) (base : Nat) (args : Array Value) (ds gs : List (DataW H)) (before : List MemPlace)
    (hval : ∀ (j : Nat) t v, Tryz.f3.params[j]? = some t → args[j]? = some v → Value.okWide Tryz.prog W .any base t v)
    (hW : DataW.Whole enc Tryz.prog Tryz.f3.params.toList Rows.viewTellsSpec.vars false W args.toList ds gs before) :
    Calls Tryz.prog 3 args W fun e W' => ∃ v, e = .returned v ∧ Rows.viewTellsSpec.post enc Tryz.prog Tryz.f3 false true false false W args v W' := by
  have hW' := hW
  obtain ⟨p, q, hA, hV, rfl, _, _⟩ := hW
  have hA' : DataW.TrodAll enc Tryz.prog W 0 (fun _ => true) true [22, 23] args.toList ds p := hA
  obtain ⟨v0, _, d0, _, p0, _, e0, rfl, _, h0, hA1⟩ := trodAll_cons hA'
  obtain ⟨v1, _, d1, _, p1, _, rfl, rfl, _, h1, hA2⟩ := trodAll_cons hA1
  obtain ⟨rfl, rfl, _⟩ := trodAll_nil hA2
  obtain rfl : args = #[v0, v1] := by cases args; simp_all
  obtain ⟨rfl, rfl⟩ := trodVars_none hV
  obtain ⟨n0, x0, s0, a0⟩ := arg_one ti_ok closed (t := 22) (by decide) (ty := _) rfl rfl (hval 0 22 v0 rfl rfl) h0
  obtain ⟨n1, x1, s1, a1⟩ := arg_one ti_ok closed (t := 23) (by decide) (ty := _) rfl rfl (hval 1 23 v1 rfl rfl) h1
  obtain ⟨y0, g0, rfl⟩ := shp_img s0
  obtain ⟨y1, g1, rfl⟩ := shp_ws s1
  refine (FnC.enter (tells_ok y0 g0 y1 g1) (Tryz.call3 _ _) rfl ?_).mono ?_
  · intro j hj
    match j, hj with
    | 0, _ => exact a0
    | 1, _ => exact a1
  · rintro e W' ⟨rfl, hB⟩
    exact ⟨_, rfl, law_post hW' rfl rfl rfl rfl rfl Tryz.underlying4 laidOut (by decide +kernel) hB⟩

noncomputable def wit : Array Value := #[.slice none 0 0, .slice none 0 0]
noncomputable def laidWorld (os : Os) : World :=
  { World.holding Tryz.prog os ⟨#[], #[], []⟩ with heap := laidHeap (World.holding Tryz.prog os ⟨#[], #[], []⟩).heap [(3, Rows.laid_unicode_utf8_acceptRanges), (2, Rows.laid_unicode_utf8_first)] }
theorem laid_met (os : Os) : laidMet Tryz.prog Rows.viewTellsRow.laid ((laidWorld os).forCall (fun _ _ => 0) ⟨#[], wit, []⟩).memory :=
  laidMet_of_run' 8 (by kernel_rfl) (by kernel_rfl)
theorem reads (os : Os) {H : Type} (enc : TypeId × Value → H) : ∃ places, DataW.whole enc Tryz.prog ((laidWorld os).forCall (fun _ _ => 0) ⟨#[], wit, []⟩).memory Tryz.f3.params.toList Rows.viewTellsSpec.vars false wit.toList 8 = some ([.nil, .nil], [], places) :=
  ⟨[], by kernel_rfl⟩

theorem lifted (os : Os) (started : os.Started) (H : Type) (enc : TypeId × Value → H) (F : Stop.Interp) :
    ReturnsInHanded {} Tryz.checked os 3 .any ((OpenSpec.ofChange Rows.viewTellsSpec).preRow enc Tryz.prog Tryz.f3 Rows.viewTellsRow.domain false Rows.viewTellsRow.laid) (((OpenSpec.ofChange Rows.viewTellsSpec).at F).post enc Tryz.prog Tryz.f3 false true false false) := by
  obtain ⟨places, hx⟩ := reads os enc
  refine returnsInHanded_of_row (C := Tryz.checked) (s := OpenSpec.ofChange Rows.viewTellsSpec) own started (by kernel_rfl) Tryz.func3
    (witness_row_at (enc := enc) (C := Tryz.checked) false (laidWorld os) wit rfl (by kernel_rfl) (by kernel_rfl) (by kernel_rfl)
      (OpenSpec.preRow_of_cond 8 hx (by kernel_rfl) (fun k hk => by cases hk) (by kernel_rfl) (laid_met os))) ?_
  intro W base args ds gs before hval hW _ _ _ _ _ _
  exact contract H enc W base args ds gs before hval hW

theorem said : Rows.ViewTellsSaid :=
  OpenClaim.holds_of_cond 3 Tryz.f3 rfl rfl rfl rfl rfl rfl rfl ⟨rfl, rfl, rfl, rfl, rfl⟩ rfl rfl rfl rfl rfl (by kernel_rfl) Tryz.func3 (by kernel_rfl)
    (of_decide_eq_true (by kernel_rfl)) (by unfold Func.isWrapper; first | (rw [if_pos (by decide +kernel)]; kernel_rfl) | (rw [if_neg (by decide +kernel)]; exact ⟨rfl, rfl⟩))
    (fun os started H enc _ F => by rw [OpenClaim.pre_eq_preRow]; exact lifted os started H enc F)

theorem plain (f : FuncId) (fn : Func) (hf : Tryz.pinned.checked.prog.funcNamed "flotsam/flotsamlaw14.ViewTells" = some f) (hfn : Tryz.pinned.checked.prog.funcs[f]? = some fn) :
    false = Tryz.pinned.checked.prog.looks [] ∧ ∀ (j : Nat) t, fn.params[j]? = some t → Tryz.pinned.checked.prog.wantsStandIn t = false := by
  obtain rfl : f = 3 := Option.some.inj ((show Tryz.prog.funcNamed "flotsam/flotsamlaw14.ViewTells" = some 3 by kernel_rfl).symm.trans hf) |>.symm
  obtain rfl : fn = Tryz.f3 := (Option.some.inj (Tryz.func3.symm.trans hfn)).symm
  refine ⟨by kernel_rfl, fun j t ht => ?_⟩
  have hall : ∀ t ∈ Tryz.f3.params, Tryz.prog.wantsStandIn t = false := by decide +kernel
  exact hall t (Array.mem_of_getElem? ht)

/-- The card. -/
theorem card : Rows.ViewTellsCardSaid :=
  Claim7.holds_tied_plain_at .later [] _ _ _ _ said (fun _ h => by cases h) (by kernel_rfl) (fun _ h => by cases h) viewTells_row_tie rfl ⟨rfl, rfl⟩ (by kernel_rfl) rfl plain (by kernel_rfl)
end tells
end Go.Proofs.YtijdbjjkfkjihaaGreatDoor
